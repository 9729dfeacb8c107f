import Derived.Test.YtoaoncnbimcdgaaDoorProg
import Derived.Test.YtoaoncnbimcdgaaDoorZLib
namespace Go.Proofs.YtoaoncnbimcdgaaDoor.F
open Go.RowKit Go.Proofs.YtoaoncnbimcdgaaDoorW.PrintWords Go.Proofs.YtoaoncnbimcdgaaDoorW.PrintLast Go.Proofs.YtoaoncnbimcdgaaDoorW.PrintMore Go.Proofs.YtoaoncnbimcdgaaDoor.Z
attribute [local go_sem] max2_int min2_int max_two min_two max_three min_three max_four min_four
set_option linter.unusedVariables false
set_option linter.unusedSimpArgs false
set_option maxRecDepth 100000
/-! #### struct type 25 -/
structure S25 where
  f0 : Int
  f1 : ByteArray
  f2 : ByteArray
  f3 : Int
  f4 : Int
  f5 : ByteArray
  f6 : Bool
  f7 : Int
  f8 : Int
  f9 : (List Int)
  f10 : (List ByteArray)
  f11 : (List ByteArray)
  f12 : ByteArray
def k25 : Kd S25 := Kd.iso (Kd.pair (Kd.int .i64) (Kd.pair Kd.string (Kd.pair Kd.string (Kd.pair (Kd.int .i64) (Kd.pair (Kd.int .i64) (Kd.pair Kd.string (Kd.pair Kd.bool (Kd.pair (Kd.int .i64) (Kd.pair (Kd.int .i64) (Kd.pair (Kd.slice 3 (Kd.int .i64)) (Kd.pair (Kd.slice 9 Kd.string) (Kd.pair (Kd.slice 9 Kd.string) Kd.string)))))))))))) (fun x : S25 => (x.f0, x.f1, x.f2, x.f3, x.f4, x.f5, x.f6, x.f7, x.f8, x.f9, x.f10, x.f11, x.f12))
/-! #### struct type 29 -/
structure S29 where
  f0 : Int
  f1 : ByteArray
  f2 : ByteArray
  f3 : Int
  f4 : Int
  f5 : ByteArray
  f6 : Bool
  f7 : Int
  f8 : Int
  f9 : (List Int)
  f10 : (List ByteArray)
  f11 : (List ByteArray)
  f12 : ByteArray
/-! #### struct type 65, nested in itself -/
structure S65 where
  f0 : Int
  f1 : ByteArray
  f2 : (List S65)
def z65 : S65 := ⟨(0 : Int), (⟨#[]⟩ : ByteArray), ([] : List S65)⟩
def F65 (d : Kd S65) : Kd S65 := Kd.iso (Kd.pair (Kd.int .i64) (Kd.pair Kd.string (Kd.slice 65 d))) (fun x : S65 => (x.f0, x.f1, x.f2))
theorem mono65 : Kd.Mono F65 := Kd.mono_iso _ (Kd.mono_pair (Kd.mono_const _) (Kd.mono_pair (Kd.mono_const _) (Kd.mono_slice 65 Kd.mono_id)))
theorem sub65 : Kd.Sub F65 [65] := Kd.sub_iso _ (Kd.sub_pair (Kd.sub_const _ (by decide)) (Kd.sub_pair (Kd.sub_const _ (by decide)) (Kd.sub_slice 65 (by decide) Kd.sub_id)))
theorem sz65 : ∀ n, (Kd.upto F65 3 [65] n).sz = 3 := Kd.upto_sz (fun _ => rfl)
def k65 : Kd S65 := Kd.fix F65 3 [65] sz65 (Kd.upto_E sub65)
theorem k65_open {w : World} {x : S65} {cs : List Value} (h : k65.K w x cs) : ∃ A2 c2, cs = [.int .i64 x.f0, .string x.f1, .slice A2 x.f2.length c2] ∧ x.f2.length ≤ c2 ∧ k65.C w A2 x.f2.length x.f2 := by
  obtain ⟨n, h⟩ := h
  cases n with
  | zero => exact h.elim
  | succ n =>
    obtain ⟨_, _, rfl, rfl, ⟨_, _, rfl, rfl, ⟨A2, c2, rfl, l2, g2⟩⟩⟩ := h
    exact ⟨A2, c2, rfl, l2, Kd.fix_C g2⟩
theorem k65_mk (w : World) (x : S65) {A2 : Option Addr} {c2 : Nat} (l2 : x.f2.length ≤ c2) (g2 : k65.C w A2 x.f2.length x.f2) : k65.K w x [.int .i64 x.f0, .string x.f1, .slice A2 x.f2.length c2] := by
  obtain ⟨n2, q2⟩ := Kd.fix_C_back mono65 g2
  have r2 := Kd.upto_C_le mono65 sz65 (show n2 ≤ n2 by omega) q2
  exact ⟨n2 + 1, ⟨[.int .i64 x.f0], [.string x.f1, .slice A2 x.f2.length c2], rfl, rfl, ⟨[.string x.f1], [.slice A2 x.f2.length c2], rfl, rfl, ⟨A2, c2, rfl, l2, r2⟩⟩⟩⟩
def rd_T65 (xs : List S65) (i : Int) : S65 := xs.getD i.toNat z65
theorem at_T65 {w : World} {A : Option Addr} {n : Nat} {xs : List S65} (h : Kd.C k65 w A n xs) (i : Int) (h0 : 0 ≤ i) (h1 : i < n) : ∃ ad A2 c2, A = some ad ∧ w.cell? (ad.add (i.toNat * 3)) = some (.int .i64 (rd_T65 xs i).f0) ∧ w.cell? ⟨(ad.add (i.toNat * 3)).block, (ad.add (i.toNat * 3)).off + 1, none⟩ = some (.string (rd_T65 xs i).f1) ∧ w.cell? ⟨(ad.add (i.toNat * 3)).block, (ad.add (i.toNat * 3)).off + 2, none⟩ = some (.slice A2 (rd_T65 xs i).f2.length c2) ∧ (rd_T65 xs i).f2.length ≤ c2 ∧ k65.C w A2 (rd_T65 xs i).f2.length (rd_T65 xs i).f2 := by
  obtain ⟨ad, c, e, _, hK, hc0⟩ := Kd.C_get h z65 i h0 h1
  have hc : ∀ j u, c[j]? = some u → w.cell? (ad.add (i.toNat * 3 + j)) = some u := hc0
  obtain ⟨A2, c2, rfl, l2, g2⟩ := k65_open hK
  exact ⟨ad, A2, c2, e, hc 0 _ rfl, by rw [← add_field _ _ 1 (by omega)]; exact hc 1 _ rfl, by rw [← add_field _ _ 2 (by omega)]; exact hc 2 _ rfl, l2, g2⟩

/-! #### struct type 41 -/
structure S41 where
  f0 : Int
  f1 : (List S25)
def k41 : Kd S41 := Kd.iso (Kd.pair (Kd.int .i64) (Kd.slice 25 k25)) (fun x : S41 => (x.f0, x.f1))
/-! #### struct type 45 -/
/-! #### struct type 82 -/
/-! #### struct type 50 -/
/-! #### struct type 86 -/
structure S86 where
  f0 : Bool
theorem km65 : Up k65 := up_fix (fun d h => up_iso _ (up_pair up_int (up_pair up_string (up_slice 65 h))))
def G65 (d : Zd S65) : Zd S65 := Zd.iso (Zd.pair (Zd.int .i64) (Zd.pair Zd.string (Zd.slice 65 d))) (fun x : S65 => (x.f0, x.f1, x.f2))
theorem g65 : ZF G65 := ZF.iso _ (ZF.pair (ZF.const _) (ZF.pair (ZF.const _) (ZF.slice 65 ZF.id)))
theorem fold65 {w : World} {x : S65} {cs : List Value} (h : (F65 k65).K w x cs) : k65.K w x cs := by
  obtain ⟨_, _, rfl, rfl, _, _, rfl, rfl, ⟨A2, c2, rfl, l2, h2⟩⟩ := h
  exact k65_mk w x l2 h2
def q65 : Zd S65 := Zd.fix k65 G65 (fun d hd w x cs h => fold65 (by rw [← hd]; exact h))
theorem q65_fold {w : World} {S : FP} {x : S65} {cs : List Value} (h : (G65 q65).M w S x cs) : q65.M w S x cs := Zd.fix_fold _ _ _ g65 h
theorem rdrep_T65 (n : Nat) (i : Int) : rd_T65 (List.replicate n z65) i = z65 := by unfold rd_T65; rw [List.getD_eq_getElem?_getD, List.getElem?_replicate]; split <;> rfl
theorem info3 : (Tryd.prog.info? 3).map (fun i => (i.zero, i.size, i.bytes)) = some (some (.int .i64 0), 1, 8) := by kernel_rfl
theorem info5 : (Tryd.prog.info? 5).map (fun i => (i.zero, i.size, i.bytes)) = some (some (.int .u8 0), 1, 1) := by kernel_rfl
theorem info9 : (Tryd.prog.info? 9).map (fun i => (i.zero, i.size, i.bytes)) = some (some (.string ⟨#[]⟩), 1, 16) := by kernel_rfl
theorem info65 : (Tryd.prog.info? 65).map (fun i => (i.zero, i.size, i.bytes)) = some (some (.agg #[.int .i64 0, .string ⟨#[]⟩, .slice none 0 0]), 3, 48) := by kernel_rfl
theorem q65_zero (w : World) (S : FP) : q65.M w S z65 [.int .i64 0, .string (⟨#[]⟩ : ByteArray), .slice none 0 0] := made_none (a := q65) (q65_fold (pair_app (a := (Zd.int .i64)) (b := (Zd.pair Zd.string (Zd.slice 65 q65))) (w := w) (S := (fun (_ : Nat) (_ : Nat) => False)) (js1 := []) (js2 := []) (x := z65.f0) (y := (z65.f1, z65.f2)) (c0 := [.int .i64 0]) (c1 := [.string (⟨#[]⟩ : ByteArray), .slice none 0 0]) hd_none rfl (pair_app (a := Zd.string) (b := (Zd.slice 65 q65)) (w := w) (S := (fun (_ : Nat) (_ : Nat) => False)) (js1 := []) (js2 := []) (x := z65.f1) (y := z65.f2) (c0 := [.string (⟨#[]⟩ : ByteArray)]) (c1 := [.slice none 0 0]) hd_none rfl row_none List.nodup_nil) List.nodup_nil))
theorem q65_pack {w : World} {S : Nat → FP} {x : S65} {v0 : Value} {j0 : Nat} (hd : ∀ i j k, i ≠ j → S i k → ¬ S j k) (h0 : (Zd.slice 65 q65).M w (S j0) x.f2 [v0]) (hn : [j0].Nodup) : q65.M w (fun k => ∃ i, i ∈ [j0] ∧ S i k) x [.int .i64 x.f0, .string x.f1, v0] := (q65_fold (pair_app (a := (Zd.int .i64)) (b := (Zd.pair Zd.string (Zd.slice 65 q65))) (w := w) (S := S) (js1 := []) (js2 := [j0]) (x := x.f0) (y := (x.f1, x.f2)) (c0 := [.int .i64 x.f0]) (c1 := [.string x.f1, v0]) hd rfl (pair_app (a := Zd.string) (b := (Zd.slice 65 q65)) (w := w) (S := S) (js1 := []) (js2 := [j0]) (x := x.f1) (y := x.f2) (c0 := [.string x.f1]) (c1 := [v0]) hd rfl (made_one h0) hn) hn))
end Go.Proofs.YtoaoncnbimcdgaaDoor.F
