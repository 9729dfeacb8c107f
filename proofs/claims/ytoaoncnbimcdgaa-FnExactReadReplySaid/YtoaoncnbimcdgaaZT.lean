import Derived.Test.YtoaoncnbimcdgaaProg
import Derived.Test.YtoaoncnbimcdgaaZView
namespace Go.Proofs.Ytoaoncnbimcdgaa.F
open Go.RowKit Go.Proofs.YtoaoncnbimcdgaaW.PrintWords Go.Proofs.YtoaoncnbimcdgaaW.PrintLast Go.Proofs.YtoaoncnbimcdgaaW.PrintMore Go.Proofs.Ytoaoncnbimcdgaa.Z
attribute [local go_sem] max2_int min2_int max_two min_two max_three min_three max_four min_four
set_option linter.unusedVariables false
set_option linter.unusedSimpArgs false
set_option maxRecDepth 100000
/-! #### struct type 154 -/
/-! #### struct type 241 -/
/-! #### struct type 158 -/
/-! #### struct type 160 -/
/-! #### struct type 26 -/
/-! #### struct type 109 -/
structure S109 where
  f0 : Int
  f1 : Int
  f2 : (List ByteArray)
  f3 : (List ByteArray)
def z109 : S109 := ⟨(0 : Int), (0 : Int), ([] : List ByteArray), ([] : List ByteArray)⟩
def k109 : Kd S109 := Kd.iso (Kd.pair (Kd.int .i64) (Kd.pair (Kd.int .i64) (Kd.pair (Kd.slice 9 Kd.string) (Kd.slice 9 Kd.string)))) (fun x : S109 => (x.f0, x.f1, x.f2, x.f3))
theorem k109_open {w : World} {x : S109} {cs : List Value} (h : k109.K w x cs) : ∃ A2 c2 A3 c3, cs = [.int .i64 x.f0, .int .i64 x.f1, .slice A2 x.f2.length c2, .slice A3 x.f3.length c3] ∧ x.f2.length ≤ c2 ∧ Kd.string.C w A2 x.f2.length x.f2 ∧ x.f3.length ≤ c3 ∧ Kd.string.C w A3 x.f3.length x.f3 := by
  obtain ⟨_, _, rfl, rfl, ⟨_, _, rfl, rfl, ⟨_, _, rfl, ⟨A2, c2, rfl, l2, g2⟩, ⟨A3, c3, rfl, l3, g3⟩⟩⟩⟩ := h
  exact ⟨A2, c2, A3, c3, rfl, l2, g2, l3, g3⟩
def rd_T109 (xs : List S109) (i : Int) : S109 := xs.getD i.toNat z109
theorem at_T109 {w : World} {A : Option Addr} {n : Nat} {xs : List S109} (h : Kd.C k109 w A n xs) (i : Int) (h0 : 0 ≤ i) (h1 : i < n) : ∃ ad A2 c2 A3 c3, A = some ad ∧ w.cell? (ad.add (i.toNat * 4)) = some (.int .i64 (rd_T109 xs i).f0) ∧ w.cell? ⟨(ad.add (i.toNat * 4)).block, (ad.add (i.toNat * 4)).off + 1, none⟩ = some (.int .i64 (rd_T109 xs i).f1) ∧ w.cell? ⟨(ad.add (i.toNat * 4)).block, (ad.add (i.toNat * 4)).off + 2, none⟩ = some (.slice A2 (rd_T109 xs i).f2.length c2) ∧ w.cell? ⟨(ad.add (i.toNat * 4)).block, (ad.add (i.toNat * 4)).off + 3, none⟩ = some (.slice A3 (rd_T109 xs i).f3.length c3) ∧ (rd_T109 xs i).f2.length ≤ c2 ∧ Kd.string.C w A2 (rd_T109 xs i).f2.length (rd_T109 xs i).f2 ∧ (rd_T109 xs i).f3.length ≤ c3 ∧ Kd.string.C w A3 (rd_T109 xs i).f3.length (rd_T109 xs i).f3 := by
  obtain ⟨ad, c, e, _, hK, hc0⟩ := Kd.C_get h z109 i h0 h1
  have hc : ∀ j u, c[j]? = some u → w.cell? (ad.add (i.toNat * 4 + j)) = some u := hc0
  obtain ⟨A2, c2, A3, c3, rfl, l2, g2, l3, g3⟩ := k109_open hK
  exact ⟨ad, A2, c2, A3, c3, e, hc 0 _ rfl, by rw [← add_field _ _ 1 (by omega)]; exact hc 1 _ rfl, by rw [← add_field _ _ 2 (by omega)]; exact hc 2 _ rfl, by rw [← add_field _ _ 3 (by omega)]; exact hc 3 _ rfl, l2, g2, l3, g3⟩

/-! #### struct type 40 -/
structure S40 where
  f0 : ByteArray
  f1 : Int
  f2 : Int
  f3 : Int
  f4 : Int
  f5 : Int
  f6 : (List S109)
  f7 : ByteArray
def k40 : Kd S40 := Kd.iso (Kd.pair Kd.string (Kd.pair (Kd.int .i64) (Kd.pair (Kd.int .i64) (Kd.pair (Kd.int .i64) (Kd.pair (Kd.int .i64) (Kd.pair (Kd.int .i64) (Kd.pair (Kd.slice 109 k109) Kd.string))))))) (fun x : S40 => (x.f0, x.f1, x.f2, x.f3, x.f4, x.f5, x.f6, x.f7))
/-! #### struct type 89 -/
structure S89 where
  f0 : Int
  f1 : Int
  f2 : ByteArray
  f3 : Int
def k89 : Kd S89 := Kd.iso (Kd.pair (Kd.int .i64) (Kd.pair (Kd.int .i64) (Kd.pair Kd.string (Kd.int .i64)))) (fun x : S89 => (x.f0, x.f1, x.f2, x.f3))
/-! #### struct type 150 -/
structure S150 where
  f0 : Int
  f1 : S40
def k150 : Kd S150 := Kd.iso (Kd.pair (Kd.int .i64) k40) (fun x : S150 => (x.f0, x.f1))
/-! #### struct type 31 -/
structure S31 where
  f0 : ByteArray
  f1 : Int
  f2 : (List S89)
  f3 : (List S150)
  f4 : (List Int)
def k31 : Kd S31 := Kd.iso (Kd.pair Kd.string (Kd.pair (Kd.int .i64) (Kd.pair (Kd.slice 89 k89) (Kd.pair (Kd.slice 150 k150) (Kd.slice 3 (Kd.int .i64)))))) (fun x : S31 => (x.f0, x.f1, x.f2, x.f3, x.f4))
/-! #### struct type 100, nested in itself -/
structure S100 where
  f0 : Int
  f1 : ByteArray
  f2 : (List S100)
def z100 : S100 := ⟨(0 : Int), (⟨#[]⟩ : ByteArray), ([] : List S100)⟩
def F100 (d : Kd S100) : Kd S100 := Kd.iso (Kd.pair (Kd.int .i64) (Kd.pair Kd.string (Kd.slice 100 d))) (fun x : S100 => (x.f0, x.f1, x.f2))
theorem mono100 : Kd.Mono F100 := Kd.mono_iso _ (Kd.mono_pair (Kd.mono_const _) (Kd.mono_pair (Kd.mono_const _) (Kd.mono_slice 100 Kd.mono_id)))
theorem sub100 : Kd.Sub F100 [100] := Kd.sub_iso _ (Kd.sub_pair (Kd.sub_const _ (by decide)) (Kd.sub_pair (Kd.sub_const _ (by decide)) (Kd.sub_slice 100 (by decide) Kd.sub_id)))
theorem sz100 : ∀ n, (Kd.upto F100 3 [100] n).sz = 3 := Kd.upto_sz (fun _ => rfl)
def k100 : Kd S100 := Kd.fix F100 3 [100] sz100 (Kd.upto_E sub100)
theorem k100_open {w : World} {x : S100} {cs : List Value} (h : k100.K w x cs) : ∃ A2 c2, cs = [.int .i64 x.f0, .string x.f1, .slice A2 x.f2.length c2] ∧ x.f2.length ≤ c2 ∧ k100.C w A2 x.f2.length x.f2 := by
  obtain ⟨n, h⟩ := h
  cases n with
  | zero => exact h.elim
  | succ n =>
    obtain ⟨_, _, rfl, rfl, ⟨_, _, rfl, rfl, ⟨A2, c2, rfl, l2, g2⟩⟩⟩ := h
    exact ⟨A2, c2, rfl, l2, Kd.fix_C g2⟩
theorem k100_mk (w : World) (x : S100) {A2 : Option Addr} {c2 : Nat} (l2 : x.f2.length ≤ c2) (g2 : k100.C w A2 x.f2.length x.f2) : k100.K w x [.int .i64 x.f0, .string x.f1, .slice A2 x.f2.length c2] := by
  obtain ⟨n2, q2⟩ := Kd.fix_C_back mono100 g2
  have r2 := Kd.upto_C_le mono100 sz100 (show n2 ≤ n2 by omega) q2
  exact ⟨n2 + 1, ⟨[.int .i64 x.f0], [.string x.f1, .slice A2 x.f2.length c2], rfl, rfl, ⟨[.string x.f1], [.slice A2 x.f2.length c2], rfl, rfl, ⟨A2, c2, rfl, l2, r2⟩⟩⟩⟩
def rd_T100 (xs : List S100) (i : Int) : S100 := xs.getD i.toNat z100
theorem at_T100 {w : World} {A : Option Addr} {n : Nat} {xs : List S100} (h : Kd.C k100 w A n xs) (i : Int) (h0 : 0 ≤ i) (h1 : i < n) : ∃ ad A2 c2, A = some ad ∧ w.cell? (ad.add (i.toNat * 3)) = some (.int .i64 (rd_T100 xs i).f0) ∧ w.cell? ⟨(ad.add (i.toNat * 3)).block, (ad.add (i.toNat * 3)).off + 1, none⟩ = some (.string (rd_T100 xs i).f1) ∧ w.cell? ⟨(ad.add (i.toNat * 3)).block, (ad.add (i.toNat * 3)).off + 2, none⟩ = some (.slice A2 (rd_T100 xs i).f2.length c2) ∧ (rd_T100 xs i).f2.length ≤ c2 ∧ k100.C w A2 (rd_T100 xs i).f2.length (rd_T100 xs i).f2 := by
  obtain ⟨ad, c, e, _, hK, hc0⟩ := Kd.C_get h z100 i h0 h1
  have hc : ∀ j u, c[j]? = some u → w.cell? (ad.add (i.toNat * 3 + j)) = some u := hc0
  obtain ⟨A2, c2, rfl, l2, g2⟩ := k100_open hK
  exact ⟨ad, A2, c2, e, hc 0 _ rfl, by rw [← add_field _ _ 1 (by omega)]; exact hc 1 _ rfl, by rw [← add_field _ _ 2 (by omega)]; exact hc 2 _ rfl, l2, g2⟩

/-! #### struct type 114 -/
structure S114 where
  f0 : Bool
/-! #### struct type 180 -/
/-! #### struct type 237 -/
/-! #### struct type 184 -/
/-! #### struct type 186 -/
/-! #### struct type 50 -/
/-! #### struct type 52 -/
structure S52 where
  f0 : Int
  f1 : (List Int)
  f2 : Bool
  f3 : Bool
  f4 : Int
def k52 : Kd S52 := Kd.iso (Kd.pair (Kd.int .i64) (Kd.pair (Kd.slice 3 (Kd.int .i64)) (Kd.pair Kd.bool (Kd.pair Kd.bool (Kd.int .i64))))) (fun x : S52 => (x.f0, x.f1, x.f2, x.f3, x.f4))
/-! #### struct type 54 -/
/-! #### struct type 192 -/
/-! #### struct type 230 -/
/-! #### struct type 190 -/
/-! #### struct type 128 -/
/-! #### struct type 61 -/
/-! #### struct type 64 -/
/-! #### struct type 66 -/
/-! #### struct type 75 -/
/-! #### struct type 79 -/
def q109 : Zd S109 := Zd.iso (Zd.pair (Zd.int .i64) (Zd.pair (Zd.int .i64) (Zd.pair (Zd.slice 9 Zd.string) (Zd.slice 9 Zd.string)))) (fun x : S109 => (x.f0, x.f1, x.f2, x.f3))
theorem km100 : Up k100 := up_fix (fun d h => up_iso _ (up_pair up_int (up_pair up_string (up_slice 100 h))))
def G100 (d : Zd S100) : Zd S100 := Zd.iso (Zd.pair (Zd.int .i64) (Zd.pair Zd.string (Zd.slice 100 d))) (fun x : S100 => (x.f0, x.f1, x.f2))
theorem g100 : ZF G100 := ZF.iso _ (ZF.pair (ZF.const _) (ZF.pair (ZF.const _) (ZF.slice 100 ZF.id)))
theorem fold100 {w : World} {x : S100} {cs : List Value} (h : (F100 k100).K w x cs) : k100.K w x cs := by
  obtain ⟨_, _, rfl, rfl, _, _, rfl, rfl, ⟨A2, c2, rfl, l2, h2⟩⟩ := h
  exact k100_mk w x l2 h2
def q100 : Zd S100 := Zd.fix k100 G100 (fun d hd w x cs h => fold100 (by rw [← hd]; exact h))
theorem q100_fold {w : World} {S : FP} {x : S100} {cs : List Value} (h : (G100 q100).M w S x cs) : q100.M w S x cs := Zd.fix_fold _ _ _ g100 h
theorem rdrep_T100 (n : Nat) (i : Int) : rd_T100 (List.replicate n z100) i = z100 := by unfold rd_T100; rw [List.getD_eq_getElem?_getD, List.getElem?_replicate]; split <;> rfl
theorem rd_T109_get {xs : List S109} {i : Int} (hl : i.toNat < xs.length) : xs[i.toNat] = rd_T109 xs i := by unfold rd_T109; simp [List.getD_eq_getElem?_getD, hl]
theorem info5 : (Try.prog.info? 5).map (fun i => (i.zero, i.size, i.bytes)) = some (some (.int .u8 0), 1, 1) := by kernel_rfl
theorem info9 : (Try.prog.info? 9).map (fun i => (i.zero, i.size, i.bytes)) = some (some (.string ⟨#[]⟩), 1, 16) := by kernel_rfl
theorem info100 : (Try.prog.info? 100).map (fun i => (i.zero, i.size, i.bytes)) = some (some (.agg #[.int .i64 0, .string ⟨#[]⟩, .slice none 0 0]), 3, 48) := by kernel_rfl
theorem info109 : (Try.prog.info? 109).map (fun i => (i.zero, i.size, i.bytes)) = some (some (.agg #[.int .i64 0, .int .i64 0, .slice none 0 0, .slice none 0 0]), 4, 64) := by kernel_rfl
def u109_0_3 (x : S109) (y : Int) : S109 := { x with f0 := y }
theorem lens109_0_3 : Lens q109 (Zd.int .i64) 0 (fun x => x.f0) u109_0_3 := (Lens.iso (Lens.left (Lens.refl (Zd.int .i64))) _ (fun x : S109 => x.f0) (fun (x : S109) y => { x with f0 := y }) (fun _ => rfl) (fun _ _ => rfl))
def u109_1_3 (x : S109) (y : Int) : S109 := { x with f1 := y }
theorem lens109_1_3 : Lens q109 (Zd.int .i64) 1 (fun x => x.f1) u109_1_3 := (Lens.iso (Lens.right (a := (Zd.int .i64)) (Lens.left (Lens.refl (Zd.int .i64)))) _ (fun x : S109 => x.f1) (fun (x : S109) y => { x with f1 := y }) (fun _ => rfl) (fun _ _ => rfl))
def u109_2_73 (x : S109) (y : (List ByteArray)) : S109 := { x with f2 := y }
theorem lens109_2_73 : Lens q109 (Zd.slice 9 Zd.string) 2 (fun x => x.f2) u109_2_73 := (Lens.iso (Lens.right (a := (Zd.int .i64)) (Lens.right (a := (Zd.int .i64)) (Lens.left (Lens.refl (Zd.slice 9 Zd.string))))) _ (fun x : S109 => x.f2) (fun (x : S109) y => { x with f2 := y }) (fun _ => rfl) (fun _ _ => rfl))
def u109_3_73 (x : S109) (y : (List ByteArray)) : S109 := { x with f3 := y }
theorem lens109_3_73 : Lens q109 (Zd.slice 9 Zd.string) 3 (fun x => x.f3) u109_3_73 := (Lens.iso (Lens.right (a := (Zd.int .i64)) (Lens.right (a := (Zd.int .i64)) (Lens.right (a := (Zd.slice 9 Zd.string)) (Lens.refl (Zd.slice 9 Zd.string))))) _ (fun x : S109 => x.f3) (fun (x : S109) y => { x with f3 := y }) (fun _ => rfl) (fun _ _ => rfl))
theorem q109_pack {w : World} {S : Nat → FP} {x : S109} {v0 v1 : Value} {j0 j1 : Nat} (hd : ∀ i j k, i ≠ j → S i k → ¬ S j k) (h0 : (Zd.slice 9 Zd.string).M w (S j0) x.f2 [v0]) (h1 : (Zd.slice 9 Zd.string).M w (S j1) x.f3 [v1]) (hn : [j0, j1].Nodup) : q109.M w (fun k => ∃ i, i ∈ [j0, j1] ∧ S i k) x [.int .i64 x.f0, .int .i64 x.f1, v0, v1] := ((pair_app (a := (Zd.int .i64)) (b := (Zd.pair (Zd.int .i64) (Zd.pair (Zd.slice 9 Zd.string) (Zd.slice 9 Zd.string)))) (w := w) (S := S) (js1 := []) (js2 := [j0, j1]) (x := x.f0) (y := (x.f1, (x.f2, x.f3))) (c0 := [.int .i64 x.f0]) (c1 := [.int .i64 x.f1, v0, v1]) hd rfl (pair_app (a := (Zd.int .i64)) (b := (Zd.pair (Zd.slice 9 Zd.string) (Zd.slice 9 Zd.string))) (w := w) (S := S) (js1 := []) (js2 := [j0, j1]) (x := x.f1) (y := (x.f2, x.f3)) (c0 := [.int .i64 x.f1]) (c1 := [v0, v1]) hd rfl (pair_app (a := (Zd.slice 9 Zd.string)) (b := (Zd.slice 9 Zd.string)) (w := w) (S := S) (js1 := [j0]) (js2 := [j1]) (x := x.f2) (y := x.f3) (c0 := [v0]) (c1 := [v1]) hd (made_one h0) (made_one h1) hn) hn) hn))
theorem q100_zero (w : World) (S : FP) : q100.M w S z100 [.int .i64 0, .string (⟨#[]⟩ : ByteArray), .slice none 0 0] := made_none (a := q100) (q100_fold (pair_app (a := (Zd.int .i64)) (b := (Zd.pair Zd.string (Zd.slice 100 q100))) (w := w) (S := (fun (_ : Nat) (_ : Nat) => False)) (js1 := []) (js2 := []) (x := z100.f0) (y := (z100.f1, z100.f2)) (c0 := [.int .i64 0]) (c1 := [.string (⟨#[]⟩ : ByteArray), .slice none 0 0]) hd_none rfl (pair_app (a := Zd.string) (b := (Zd.slice 100 q100)) (w := w) (S := (fun (_ : Nat) (_ : Nat) => False)) (js1 := []) (js2 := []) (x := z100.f1) (y := z100.f2) (c0 := [.string (⟨#[]⟩ : ByteArray)]) (c1 := [.slice none 0 0]) hd_none rfl row_none List.nodup_nil) List.nodup_nil))
theorem q100_pack {w : World} {S : Nat → FP} {x : S100} {v0 : Value} {j0 : Nat} (hd : ∀ i j k, i ≠ j → S i k → ¬ S j k) (h0 : (Zd.slice 100 q100).M w (S j0) x.f2 [v0]) (hn : [j0].Nodup) : q100.M w (fun k => ∃ i, i ∈ [j0] ∧ S i k) x [.int .i64 x.f0, .string x.f1, v0] := (q100_fold (pair_app (a := (Zd.int .i64)) (b := (Zd.pair Zd.string (Zd.slice 100 q100))) (w := w) (S := S) (js1 := []) (js2 := [j0]) (x := x.f0) (y := (x.f1, x.f2)) (c0 := [.int .i64 x.f0]) (c1 := [.string x.f1, v0]) hd rfl (pair_app (a := Zd.string) (b := (Zd.slice 100 q100)) (w := w) (S := S) (js1 := []) (js2 := [j0]) (x := x.f1) (y := x.f2) (c0 := [.string x.f1]) (c1 := [v0]) hd rfl (made_one h0) hn) hn))
end Go.Proofs.Ytoaoncnbimcdgaa.F
