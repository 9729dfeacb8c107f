import Derived.Test.YtfcpjeeeddjakaaGreatProg
import Derived.Test.YtfcpjeeeddjakaaGreatZView
import Derived.Test.YtfcpjeeeddjakaaGreatZArr
namespace Go.Proofs.YtfcpjeeeddjakaaGreat.F
open Go.RowKit YtfcpjeeeddjakaaGreatW.PrintWords YtfcpjeeeddjakaaGreatW.PrintLast YtfcpjeeeddjakaaGreatW.PrintMore Z
attribute [local go_sem] max2_int min2_int max_two min_two max_three min_three max_four min_four
set_option linter.unusedVariables false
set_option linter.unusedSimpArgs false
set_option maxRecDepth 100000
structure S26 where
  f0 : (List ByteArray)
  f1 : Int
  f2 : Int
  f3 : Int
  f4 : Int
  f5 : Bool
structure S66 where
  f0 : Int
  f1 : ByteArray
  f2 : (List S66)
def z66 : S66 := ⟨(0 : Int), (⟨#[]⟩ : ByteArray), ([] : List S66)⟩
def F66 (d : Kd S66) : Kd S66 := Kd.iso (Kd.pair (Kd.int .i64) (Kd.pair Kd.string (Kd.slice 66 d))) (fun x : S66 => (x.f0, x.f1, x.f2))
theorem mono66 : Kd.Mono F66 := Kd.mono_iso _ (Kd.mono_pair (Kd.mono_const _) (Kd.mono_pair (Kd.mono_const _) (Kd.mono_slice 66 Kd.mono_id)))
theorem sub66 : Kd.Sub F66 [66] := Kd.sub_iso _ (Kd.sub_pair (Kd.sub_const _ (by decide)) (Kd.sub_pair (Kd.sub_const _ (by decide)) (Kd.sub_slice 66 (by decide) Kd.sub_id)))
theorem sz66 : ∀ n, (Kd.upto F66 3 [66] n).sz = 3 := Kd.upto_sz (fun _ => rfl)
def k66 : Kd S66 := Kd.fix F66 3 [66] sz66 (Kd.upto_E sub66)
theorem k66_open {w : World} {x : S66} {cs : List Value} (h : k66.K w x cs) : ∃ A2 c2, cs = [.int .i64 x.f0, .string x.f1, .slice A2 x.f2.length c2] ∧ x.f2.length ≤ c2 ∧ k66.C w A2 x.f2.length x.f2 := by
  obtain ⟨n, h⟩ := h
  cases n with
  | zero => exact h.elim
  | succ n =>
    obtain ⟨_, _, rfl, rfl, ⟨_, _, rfl, rfl, ⟨A2, c2, rfl, l2, g2⟩⟩⟩ := h
    exact ⟨A2, c2, rfl, l2, Kd.fix_C g2⟩
theorem k66_mk (w : World) (x : S66) {A2 : Option Addr} {c2 : Nat} (l2 : x.f2.length ≤ c2) (g2 : k66.C w A2 x.f2.length x.f2) : k66.K w x [.int .i64 x.f0, .string x.f1, .slice A2 x.f2.length c2] := by
  obtain ⟨n2, q2⟩ := Kd.fix_C_back mono66 g2
  have r2 := Kd.upto_C_le mono66 sz66 (show n2 ≤ n2 by omega) q2
  exact ⟨n2 + 1, ⟨[.int .i64 x.f0], [.string x.f1, .slice A2 x.f2.length c2], rfl, rfl, ⟨[.string x.f1], [.slice A2 x.f2.length c2], rfl, rfl, ⟨A2, c2, rfl, l2, r2⟩⟩⟩⟩
def rd_T66 (xs : List S66) (i : Int) : S66 := xs.getD i.toNat z66
theorem at_T66 {w : World} {A : Option Addr} {n : Nat} {xs : List S66} (h : Kd.C k66 w A n xs) (i : Int) (h0 : 0 ≤ i) (h1 : i < n) : ∃ ad A2 c2, A = some ad ∧ w.cell? (ad.add (i.toNat * 3)) = some (.int .i64 (rd_T66 xs i).f0) ∧ w.cell? ⟨(ad.add (i.toNat * 3)).block, (ad.add (i.toNat * 3)).off + 1, none⟩ = some (.string (rd_T66 xs i).f1) ∧ w.cell? ⟨(ad.add (i.toNat * 3)).block, (ad.add (i.toNat * 3)).off + 2, none⟩ = some (.slice A2 (rd_T66 xs i).f2.length c2) ∧ (rd_T66 xs i).f2.length ≤ c2 ∧ k66.C w A2 (rd_T66 xs i).f2.length (rd_T66 xs i).f2 := by
  obtain ⟨ad, c, e, _, hK, hc0⟩ := Kd.C_get h z66 i h0 h1
  have hc : ∀ j u, c[j]? = some u → w.cell? (ad.add (i.toNat * 3 + j)) = some u := hc0
  obtain ⟨A2, c2, rfl, l2, g2⟩ := k66_open hK
  exact ⟨ad, A2, c2, e, hc 0 _ rfl, by rw [← add_field _ _ 1 (by omega)]; exact hc 1 _ rfl, by rw [← add_field _ _ 2 (by omega)]; exact hc 2 _ rfl, l2, g2⟩
structure S125 where
  f0 : Int
  f1 : ByteArray
  f2 : ByteArray
  f3 : Int
  f4 : Int
  f5 : ByteArray
  f6 : Bool
  f7 : Int
  f8 : Int
  f9 : (List Int)
  f10 : (List ByteArray)
  f11 : (List ByteArray)
  f12 : ByteArray
def k125 : Kd S125 := Kd.iso (Kd.pair (Kd.int .i64) (Kd.pair Kd.string (Kd.pair Kd.string (Kd.pair (Kd.int .i64) (Kd.pair (Kd.int .i64) (Kd.pair Kd.string (Kd.pair Kd.bool (Kd.pair (Kd.int .i64) (Kd.pair (Kd.int .i64) (Kd.pair (Kd.slice 3 (Kd.int .i64)) (Kd.pair (Kd.slice 9 Kd.string) (Kd.pair (Kd.slice 9 Kd.string) Kd.string)))))))))))) (fun x : S125 => (x.f0, x.f1, x.f2, x.f3, x.f4, x.f5, x.f6, x.f7, x.f8, x.f9, x.f10, x.f11, x.f12))
structure S110 where
  f0 : (List Int)
  f1 : Int
  f2 : Int
structure S77 where
  f0 : Bool
structure S133 where
  f0 : Int
  f1 : Int
def k133 : Kd S133 := Kd.iso (Kd.pair (Kd.int .i64) (Kd.int .i64)) (fun x : S133 => (x.f0, x.f1))
structure S103 where
  f0 : ByteArray
  f1 : Int
  f2 : Int
  f3 : Int
  f4 : Int
  f5 : (List S133)
  f6 : ByteArray
def k103 : Kd S103 := Kd.iso (Kd.pair Kd.string (Kd.pair (Kd.int .i64) (Kd.pair (Kd.int .i64) (Kd.pair (Kd.int .i64) (Kd.pair (Kd.int .i64) (Kd.pair (Kd.slice 133 k133) Kd.string)))))) (fun x : S103 => (x.f0, x.f1, x.f2, x.f3, x.f4, x.f5, x.f6))
structure S105 where
  f0 : ByteArray
  f1 : ByteArray
def k105 : Kd S105 := Kd.iso (Kd.pair Kd.string Kd.string) (fun x : S105 => (x.f0, x.f1))
structure S48 where
  f0 : (List S125)
  f1 : (List S103)
  f2 : (List S105)
def k48 : Kd S48 := Kd.iso (Kd.pair (Kd.slice 125 k125) (Kd.pair (Kd.slice 103 k103) (Kd.slice 105 k105))) (fun x : S48 => (x.f0, x.f1, x.f2))
theorem km66 : Up k66 := up_fix (fun d h => up_iso _ (up_pair up_int (up_pair up_string (up_slice 66 h))))
def G66 (d : Zd S66) : Zd S66 := Zd.iso (Zd.pair (Zd.int .i64) (Zd.pair Zd.string (Zd.slice 66 d))) (fun x : S66 => (x.f0, x.f1, x.f2))
theorem g66 : ZF G66 := ZF.iso _ (ZF.pair (ZF.const _) (ZF.pair (ZF.const _) (ZF.slice 66 ZF.id)))
theorem fold66 {w : World} {x : S66} {cs : List Value} (h : (F66 k66).K w x cs) : k66.K w x cs := by
  obtain ⟨_, _, rfl, rfl, _, _, rfl, rfl, ⟨A2, c2, rfl, l2, h2⟩⟩ := h
  exact k66_mk w x l2 h2
def q66 : Zd S66 := Zd.fix k66 G66 (fun d hd w x cs h => fold66 (by rw [← hd]; exact h))
theorem q66_fold {w : World} {S : FP} {x : S66} {cs : List Value} (h : (G66 q66).M w S x cs) : q66.M w S x cs := Zd.fix_fold _ _ _ g66 h
theorem rdrep_T66 (n : Nat) (i : Int) : rd_T66 (List.replicate n z66) i = z66 := by unfold rd_T66; rw [List.getD_eq_getElem?_getD, List.getElem?_replicate]; split <;> rfl
theorem info3 : (Tryz.prog.info? 3).map (fun i => (i.zero, i.size, i.bytes)) = some (some (.int .i64 0), 1, 8) := by kernel_rfl
theorem info5 : (Tryz.prog.info? 5).map (fun i => (i.zero, i.size, i.bytes)) = some (some (.int .u8 0), 1, 1) := by kernel_rfl
theorem info9 : (Tryz.prog.info? 9).map (fun i => (i.zero, i.size, i.bytes)) = some (some (.string ⟨#[]⟩), 1, 16) := by kernel_rfl
theorem info66 : (Tryz.prog.info? 66).map (fun i => (i.zero, i.size, i.bytes)) = some (some (.agg #[.int .i64 0, .string ⟨#[]⟩, .slice none 0 0]), 3, 48) := by kernel_rfl
theorem q66_zero (w : World) (S : FP) : q66.M w S z66 [.int .i64 0, .string (⟨#[]⟩ : ByteArray), .slice none 0 0] := made_none (a := q66) (q66_fold (pair_app (a := (Zd.int .i64)) (b := (Zd.pair Zd.string (Zd.slice 66 q66))) (w := w) (S := (fun (_ : Nat) (_ : Nat) => False)) (js1 := []) (js2 := []) (x := z66.f0) (y := (z66.f1, z66.f2)) (c0 := [.int .i64 0]) (c1 := [.string (⟨#[]⟩ : ByteArray), .slice none 0 0]) hd_none rfl (pair_app (a := Zd.string) (b := (Zd.slice 66 q66)) (w := w) (S := (fun (_ : Nat) (_ : Nat) => False)) (js1 := []) (js2 := []) (x := z66.f1) (y := z66.f2) (c0 := [.string (⟨#[]⟩ : ByteArray)]) (c1 := [.slice none 0 0]) hd_none rfl row_none List.nodup_nil) List.nodup_nil))
theorem q66_pack {w : World} {S : Nat → FP} {x : S66} {v0 : Value} {j0 : Nat} (hd : ∀ i j k, i ≠ j → S i k → ¬ S j k) (h0 : (Zd.slice 66 q66).M w (S j0) x.f2 [v0]) (hn : [j0].Nodup) : q66.M w (fun k => ∃ i, i ∈ [j0] ∧ S i k) x [.int .i64 x.f0, .string x.f1, v0] := (q66_fold (pair_app (a := (Zd.int .i64)) (b := (Zd.pair Zd.string (Zd.slice 66 q66))) (w := w) (S := S) (js1 := []) (js2 := [j0]) (x := x.f0) (y := (x.f1, x.f2)) (c0 := [.int .i64 x.f0]) (c1 := [.string x.f1, v0]) hd rfl (pair_app (a := Zd.string) (b := (Zd.slice 66 q66)) (w := w) (S := S) (js1 := []) (js2 := [j0]) (x := x.f1) (y := x.f2) (c0 := [.string x.f1]) (c1 := [v0]) hd rfl (made_one h0) hn) hn))
end Go.Proofs.YtfcpjeeeddjakaaGreat.F
