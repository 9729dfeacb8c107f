import Derived.Test.YtdcjcanobiohnaaProg
import Derived.Test.YtdcjcanobiohnaaZView
namespace Go.Proofs.Ytdcjcanobiohnaa.F
open Go.RowKit Go.Proofs.YtdcjcanobiohnaaW.PrintWords Go.Proofs.YtdcjcanobiohnaaW.PrintLast Go.Proofs.YtdcjcanobiohnaaW.PrintMore Go.Proofs.Ytdcjcanobiohnaa.Z
attribute [local go_sem] max2_int min2_int max_two min_two max_three min_three max_four min_four
set_option linter.unusedVariables false
set_option linter.unusedSimpArgs false
set_option maxRecDepth 100000
/-! #### struct type 92 -/
/-! #### struct type 94 -/
/-! #### struct type 165 -/
/-! #### struct type 171 -/
/-! #### struct type 49 -/
/-! #### struct type 117 -/
/-! #### struct type 37 -/
/-! #### struct type 169 -/
/-! #### struct type 44 -/
/-! #### struct type 107, nested in itself -/
structure S107 where
  f0 : Int
  f1 : ByteArray
  f2 : (List S107)
def z107 : S107 := ⟨(0 : Int), (⟨#[]⟩ : ByteArray), ([] : List S107)⟩
def F107 (d : Kd S107) : Kd S107 := Kd.iso (Kd.pair (Kd.int .i64) (Kd.pair Kd.string (Kd.slice 107 d))) (fun x : S107 => (x.f0, x.f1, x.f2))
theorem mono107 : Kd.Mono F107 := Kd.mono_iso _ (Kd.mono_pair (Kd.mono_const _) (Kd.mono_pair (Kd.mono_const _) (Kd.mono_slice 107 Kd.mono_id)))
theorem sub107 : Kd.Sub F107 [107] := Kd.sub_iso _ (Kd.sub_pair (Kd.sub_const _ (by decide)) (Kd.sub_pair (Kd.sub_const _ (by decide)) (Kd.sub_slice 107 (by decide) Kd.sub_id)))
theorem sz107 : ∀ n, (Kd.upto F107 3 [107] n).sz = 3 := Kd.upto_sz (fun _ => rfl)
def k107 : Kd S107 := Kd.fix F107 3 [107] sz107 (Kd.upto_E sub107)
theorem k107_open {w : World} {x : S107} {cs : List Value} (h : k107.K w x cs) : ∃ A2 c2, cs = [.int .i64 x.f0, .string x.f1, .slice A2 x.f2.length c2] ∧ x.f2.length ≤ c2 ∧ k107.C w A2 x.f2.length x.f2 := by
  obtain ⟨n, h⟩ := h
  cases n with
  | zero => exact h.elim
  | succ n =>
    obtain ⟨_, _, rfl, rfl, ⟨_, _, rfl, rfl, ⟨A2, c2, rfl, l2, g2⟩⟩⟩ := h
    exact ⟨A2, c2, rfl, l2, Kd.fix_C g2⟩
theorem k107_mk (w : World) (x : S107) {A2 : Option Addr} {c2 : Nat} (l2 : x.f2.length ≤ c2) (g2 : k107.C w A2 x.f2.length x.f2) : k107.K w x [.int .i64 x.f0, .string x.f1, .slice A2 x.f2.length c2] := by
  obtain ⟨n2, q2⟩ := Kd.fix_C_back mono107 g2
  have r2 := Kd.upto_C_le mono107 sz107 (show n2 ≤ n2 by omega) q2
  exact ⟨n2 + 1, ⟨[.int .i64 x.f0], [.string x.f1, .slice A2 x.f2.length c2], rfl, rfl, ⟨[.string x.f1], [.slice A2 x.f2.length c2], rfl, rfl, ⟨A2, c2, rfl, l2, r2⟩⟩⟩⟩
def rd_T107 (xs : List S107) (i : Int) : S107 := xs.getD i.toNat z107
theorem at_T107 {w : World} {A : Option Addr} {n : Nat} {xs : List S107} (h : Kd.C k107 w A n xs) (i : Int) (h0 : 0 ≤ i) (h1 : i < n) : ∃ ad A2 c2, A = some ad ∧ w.cell? (ad.add (i.toNat * 3)) = some (.int .i64 (rd_T107 xs i).f0) ∧ w.cell? ⟨(ad.add (i.toNat * 3)).block, (ad.add (i.toNat * 3)).off + 1, none⟩ = some (.string (rd_T107 xs i).f1) ∧ w.cell? ⟨(ad.add (i.toNat * 3)).block, (ad.add (i.toNat * 3)).off + 2, none⟩ = some (.slice A2 (rd_T107 xs i).f2.length c2) ∧ (rd_T107 xs i).f2.length ≤ c2 ∧ k107.C w A2 (rd_T107 xs i).f2.length (rd_T107 xs i).f2 := by
  obtain ⟨ad, c, e, _, hK, hc0⟩ := Kd.C_get h z107 i h0 h1
  have hc : ∀ j u, c[j]? = some u → w.cell? (ad.add (i.toNat * 3 + j)) = some u := hc0
  obtain ⟨A2, c2, rfl, l2, g2⟩ := k107_open hK
  exact ⟨ad, A2, c2, e, hc 0 _ rfl, by rw [← add_field _ _ 1 (by omega)]; exact hc 1 _ rfl, by rw [← add_field _ _ 2 (by omega)]; exact hc 2 _ rfl, l2, g2⟩

/-! #### struct type 184 -/
/-! #### struct type 187 -/
/-! #### struct type 58 -/
/-! #### struct type 67 -/
structure S67 where
  f0 : (List ByteArray)
  f1 : Int
  f2 : Int
  f3 : Int
  f4 : Int
  f5 : Bool
/-! #### struct type 133 -/
structure S133 where
  f0 : Bool
/-! #### struct type 141 -/
/-! #### struct type 143 -/
/-! #### struct type 234 -/
/-! #### struct type 201 -/
/-! #### struct type 204 -/
/-! #### struct type 76 -/
/-! #### struct type 146 -/
/-! #### struct type 148 -/
/-! #### struct type 232 -/
/-! #### struct type 209 -/
/-! #### struct type 211 -/
/-! #### struct type 85 -/
theorem km107 : Up k107 := up_fix (fun d h => up_iso _ (up_pair up_int (up_pair up_string (up_slice 107 h))))
def G107 (d : Zd S107) : Zd S107 := Zd.iso (Zd.pair (Zd.int .i64) (Zd.pair Zd.string (Zd.slice 107 d))) (fun x : S107 => (x.f0, x.f1, x.f2))
theorem g107 : ZF G107 := ZF.iso _ (ZF.pair (ZF.const _) (ZF.pair (ZF.const _) (ZF.slice 107 ZF.id)))
theorem fold107 {w : World} {x : S107} {cs : List Value} (h : (F107 k107).K w x cs) : k107.K w x cs := by
  obtain ⟨_, _, rfl, rfl, _, _, rfl, rfl, ⟨A2, c2, rfl, l2, h2⟩⟩ := h
  exact k107_mk w x l2 h2
def q107 : Zd S107 := Zd.fix k107 G107 (fun d hd w x cs h => fold107 (by rw [← hd]; exact h))
theorem q107_fold {w : World} {S : FP} {x : S107} {cs : List Value} (h : (G107 q107).M w S x cs) : q107.M w S x cs := Zd.fix_fold _ _ _ g107 h
theorem rdrep_T107 (n : Nat) (i : Int) : rd_T107 (List.replicate n z107) i = z107 := by unfold rd_T107; rw [List.getD_eq_getElem?_getD, List.getElem?_replicate]; split <;> rfl
theorem info5 : (Try.prog.info? 5).map (fun i => (i.zero, i.size, i.bytes)) = some (some (.int .u8 0), 1, 1) := by kernel_rfl
theorem info9 : (Try.prog.info? 9).map (fun i => (i.zero, i.size, i.bytes)) = some (some (.string ⟨#[]⟩), 1, 16) := by kernel_rfl
theorem info107 : (Try.prog.info? 107).map (fun i => (i.zero, i.size, i.bytes)) = some (some (.agg #[.int .i64 0, .string ⟨#[]⟩, .slice none 0 0]), 3, 48) := by kernel_rfl
theorem q107_zero (w : World) (S : FP) : q107.M w S z107 [.int .i64 0, .string (⟨#[]⟩ : ByteArray), .slice none 0 0] := made_none (a := q107) (q107_fold (pair_app (a := (Zd.int .i64)) (b := (Zd.pair Zd.string (Zd.slice 107 q107))) (w := w) (S := (fun (_ : Nat) (_ : Nat) => False)) (js1 := []) (js2 := []) (x := z107.f0) (y := (z107.f1, z107.f2)) (c0 := [.int .i64 0]) (c1 := [.string (⟨#[]⟩ : ByteArray), .slice none 0 0]) hd_none rfl (pair_app (a := Zd.string) (b := (Zd.slice 107 q107)) (w := w) (S := (fun (_ : Nat) (_ : Nat) => False)) (js1 := []) (js2 := []) (x := z107.f1) (y := z107.f2) (c0 := [.string (⟨#[]⟩ : ByteArray)]) (c1 := [.slice none 0 0]) hd_none rfl row_none List.nodup_nil) List.nodup_nil))
theorem q107_pack {w : World} {S : Nat → FP} {x : S107} {v0 : Value} {j0 : Nat} (hd : ∀ i j k, i ≠ j → S i k → ¬ S j k) (h0 : (Zd.slice 107 q107).M w (S j0) x.f2 [v0]) (hn : [j0].Nodup) : q107.M w (fun k => ∃ i, i ∈ [j0] ∧ S i k) x [.int .i64 x.f0, .string x.f1, v0] := (q107_fold (pair_app (a := (Zd.int .i64)) (b := (Zd.pair Zd.string (Zd.slice 107 q107))) (w := w) (S := S) (js1 := []) (js2 := [j0]) (x := x.f0) (y := (x.f1, x.f2)) (c0 := [.int .i64 x.f0]) (c1 := [.string x.f1, v0]) hd rfl (pair_app (a := Zd.string) (b := (Zd.slice 107 q107)) (w := w) (S := S) (js1 := []) (js2 := [j0]) (x := x.f1) (y := x.f2) (c0 := [.string x.f1]) (c1 := [v0]) hd rfl (made_one h0) hn) hn))
end Go.Proofs.Ytdcjcanobiohnaa.F
