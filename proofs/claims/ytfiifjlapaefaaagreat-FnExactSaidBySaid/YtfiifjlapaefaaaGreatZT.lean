import Derived.Test.YtfiifjlapaefaaaGreatProg
import Derived.Test.YtfiifjlapaefaaaGreatZView
namespace Go.Proofs.YtfiifjlapaefaaaGreat.F
open Go.RowKit Go.Proofs.YtfiifjlapaefaaaGreatW.PrintWords Go.Proofs.YtfiifjlapaefaaaGreatW.PrintLast Go.Proofs.YtfiifjlapaefaaaGreatW.PrintMore Go.Proofs.YtfiifjlapaefaaaGreat.Z
attribute [local go_sem] max2_int min2_int max_two min_two max_three min_three max_four min_four
set_option linter.unusedVariables false
set_option linter.unusedSimpArgs false
set_option maxRecDepth 100000
def rd_L3 (xs : List (List Int)) (i : Int) : (List Int) := xs.getD i.toNat ([] : List Int)
theorem at_L3 {w : World} {A : Option Addr} {n : Nat} {xs : List (List Int)} (h : Kd.C (Kd.slice 3 (Kd.int .i64)) w A n xs) (i : Int) (h0 : 0 ≤ i) (h1 : i < n) : ∃ ad A0 c0, A = some ad ∧ w.cell? (ad.add i.toNat) = some (.slice A0 (rd_L3 xs i).length c0) ∧ (rd_L3 xs i).length ≤ c0 ∧ (Kd.int .i64).C w A0 (rd_L3 xs i).length (rd_L3 xs i) := by
  obtain ⟨ad, c, e, _, hK, hc0⟩ := Kd.C_get h ([] : List Int) i h0 h1
  have hc : ∀ j u, c[j]? = some u → w.cell? (ad.add (i.toNat * 1 + j)) = some u := hc0
  obtain ⟨A0, c0, rfl, l0, g0⟩ := hK
  exact ⟨ad, A0, c0, e, by have hq := hc 0 _ rfl; rwa [Nat.mul_one, Nat.add_zero] at hq, l0, g0⟩

def rd_L4 (xs : List (List ByteArray)) (i : Int) : (List ByteArray) := xs.getD i.toNat ([] : List ByteArray)
theorem at_L4 {w : World} {A : Option Addr} {n : Nat} {xs : List (List ByteArray)} (h : Kd.C (Kd.slice 9 Kd.string) w A n xs) (i : Int) (h0 : 0 ≤ i) (h1 : i < n) : ∃ ad A0 c0, A = some ad ∧ w.cell? (ad.add i.toNat) = some (.slice A0 (rd_L4 xs i).length c0) ∧ (rd_L4 xs i).length ≤ c0 ∧ Kd.string.C w A0 (rd_L4 xs i).length (rd_L4 xs i) := by
  obtain ⟨ad, c, e, _, hK, hc0⟩ := Kd.C_get h ([] : List ByteArray) i h0 h1
  have hc : ∀ j u, c[j]? = some u → w.cell? (ad.add (i.toNat * 1 + j)) = some u := hc0
  obtain ⟨A0, c0, rfl, l0, g0⟩ := hK
  exact ⟨ad, A0, c0, e, by have hq := hc 0 _ rfl; rwa [Nat.mul_one, Nat.add_zero] at hq, l0, g0⟩

/-! #### struct type 99 -/
structure S99 where
  f0 : Int
  f1 : ByteArray
  f2 : ByteArray
  f3 : Int
  f4 : Int
  f5 : ByteArray
  f6 : Bool
  f7 : Int
  f8 : Int
  f9 : (List Int)
  f10 : (List ByteArray)
  f11 : (List ByteArray)
  f12 : ByteArray
def z99 : S99 := ⟨(0 : Int), (⟨#[]⟩ : ByteArray), (⟨#[]⟩ : ByteArray), (0 : Int), (0 : Int), (⟨#[]⟩ : ByteArray), false, (0 : Int), (0 : Int), ([] : List Int), ([] : List ByteArray), ([] : List ByteArray), (⟨#[]⟩ : ByteArray)⟩
def k99 : Kd S99 := Kd.iso (Kd.pair (Kd.int .i64) (Kd.pair Kd.string (Kd.pair Kd.string (Kd.pair (Kd.int .i64) (Kd.pair (Kd.int .i64) (Kd.pair Kd.string (Kd.pair Kd.bool (Kd.pair (Kd.int .i64) (Kd.pair (Kd.int .i64) (Kd.pair (Kd.slice 3 (Kd.int .i64)) (Kd.pair (Kd.slice 9 Kd.string) (Kd.pair (Kd.slice 9 Kd.string) Kd.string)))))))))))) (fun x : S99 => (x.f0, x.f1, x.f2, x.f3, x.f4, x.f5, x.f6, x.f7, x.f8, x.f9, x.f10, x.f11, x.f12))
theorem k99_open {w : World} {x : S99} {cs : List Value} (h : k99.K w x cs) : ∃ A9 c9 A10 c10 A11 c11, cs = [.int .i64 x.f0, .string x.f1, .string x.f2, .int .i64 x.f3, .int .i64 x.f4, .string x.f5, .bool x.f6, .int .i64 x.f7, .int .i64 x.f8, .slice A9 x.f9.length c9, .slice A10 x.f10.length c10, .slice A11 x.f11.length c11, .string x.f12] ∧ x.f9.length ≤ c9 ∧ (Kd.int .i64).C w A9 x.f9.length x.f9 ∧ x.f10.length ≤ c10 ∧ Kd.string.C w A10 x.f10.length x.f10 ∧ x.f11.length ≤ c11 ∧ Kd.string.C w A11 x.f11.length x.f11 := by
  obtain ⟨_, _, rfl, rfl, ⟨_, _, rfl, rfl, ⟨_, _, rfl, rfl, ⟨_, _, rfl, rfl, ⟨_, _, rfl, rfl, ⟨_, _, rfl, rfl, ⟨_, _, rfl, rfl, ⟨_, _, rfl, rfl, ⟨_, _, rfl, rfl, ⟨_, _, rfl, ⟨A9, c9, rfl, l9, g9⟩, ⟨_, _, rfl, ⟨A10, c10, rfl, l10, g10⟩, ⟨_, _, rfl, ⟨A11, c11, rfl, l11, g11⟩, rfl⟩⟩⟩⟩⟩⟩⟩⟩⟩⟩⟩⟩ := h
  exact ⟨A9, c9, A10, c10, A11, c11, rfl, l9, g9, l10, g10, l11, g11⟩
theorem k99_openM {w : World} {base : Nat} {ok : Nat → Prop} {x : S99} {cs : List Value} (h : k99.M w base ok x cs) : ∃ v9 v10 v11, cs = [.int .i64 x.f0, .string x.f1, .string x.f2, .int .i64 x.f3, .int .i64 x.f4, .string x.f5, .bool x.f6, .int .i64 x.f7, .int .i64 x.f8, v9, v10, v11, .string x.f12] ∧ (Kd.int .i64).R 3 w base ok v9 x.f9 ∧ Kd.string.R 9 w base ok v10 x.f10 ∧ Kd.string.R 9 w base ok v11 x.f11 := by
  obtain ⟨_, _, rfl, rfl, ⟨_, _, rfl, rfl, ⟨_, _, rfl, rfl, ⟨_, _, rfl, rfl, ⟨_, _, rfl, rfl, ⟨_, _, rfl, rfl, ⟨_, _, rfl, rfl, ⟨_, _, rfl, rfl, ⟨_, _, rfl, rfl, ⟨_, _, rfl, ⟨v9, rfl, g9⟩, ⟨_, _, rfl, ⟨v10, rfl, g10⟩, ⟨_, _, rfl, ⟨v11, rfl, g11⟩, rfl⟩⟩⟩⟩⟩⟩⟩⟩⟩⟩⟩⟩ := h
  exact ⟨v9, v10, v11, rfl, g9, g10, g11⟩
theorem k99_mk (w : World) (x : S99) {A9 : Option Addr} {c9 : Nat} (l9 : x.f9.length ≤ c9) (g9 : (Kd.int .i64).C w A9 x.f9.length x.f9) {A10 : Option Addr} {c10 : Nat} (l10 : x.f10.length ≤ c10) (g10 : Kd.string.C w A10 x.f10.length x.f10) {A11 : Option Addr} {c11 : Nat} (l11 : x.f11.length ≤ c11) (g11 : Kd.string.C w A11 x.f11.length x.f11) : k99.K w x [.int .i64 x.f0, .string x.f1, .string x.f2, .int .i64 x.f3, .int .i64 x.f4, .string x.f5, .bool x.f6, .int .i64 x.f7, .int .i64 x.f8, .slice A9 x.f9.length c9, .slice A10 x.f10.length c10, .slice A11 x.f11.length c11, .string x.f12] := ⟨[.int .i64 x.f0], [.string x.f1, .string x.f2, .int .i64 x.f3, .int .i64 x.f4, .string x.f5, .bool x.f6, .int .i64 x.f7, .int .i64 x.f8, .slice A9 x.f9.length c9, .slice A10 x.f10.length c10, .slice A11 x.f11.length c11, .string x.f12], rfl, rfl, ⟨[.string x.f1], [.string x.f2, .int .i64 x.f3, .int .i64 x.f4, .string x.f5, .bool x.f6, .int .i64 x.f7, .int .i64 x.f8, .slice A9 x.f9.length c9, .slice A10 x.f10.length c10, .slice A11 x.f11.length c11, .string x.f12], rfl, rfl, ⟨[.string x.f2], [.int .i64 x.f3, .int .i64 x.f4, .string x.f5, .bool x.f6, .int .i64 x.f7, .int .i64 x.f8, .slice A9 x.f9.length c9, .slice A10 x.f10.length c10, .slice A11 x.f11.length c11, .string x.f12], rfl, rfl, ⟨[.int .i64 x.f3], [.int .i64 x.f4, .string x.f5, .bool x.f6, .int .i64 x.f7, .int .i64 x.f8, .slice A9 x.f9.length c9, .slice A10 x.f10.length c10, .slice A11 x.f11.length c11, .string x.f12], rfl, rfl, ⟨[.int .i64 x.f4], [.string x.f5, .bool x.f6, .int .i64 x.f7, .int .i64 x.f8, .slice A9 x.f9.length c9, .slice A10 x.f10.length c10, .slice A11 x.f11.length c11, .string x.f12], rfl, rfl, ⟨[.string x.f5], [.bool x.f6, .int .i64 x.f7, .int .i64 x.f8, .slice A9 x.f9.length c9, .slice A10 x.f10.length c10, .slice A11 x.f11.length c11, .string x.f12], rfl, rfl, ⟨[.bool x.f6], [.int .i64 x.f7, .int .i64 x.f8, .slice A9 x.f9.length c9, .slice A10 x.f10.length c10, .slice A11 x.f11.length c11, .string x.f12], rfl, rfl, ⟨[.int .i64 x.f7], [.int .i64 x.f8, .slice A9 x.f9.length c9, .slice A10 x.f10.length c10, .slice A11 x.f11.length c11, .string x.f12], rfl, rfl, ⟨[.int .i64 x.f8], [.slice A9 x.f9.length c9, .slice A10 x.f10.length c10, .slice A11 x.f11.length c11, .string x.f12], rfl, rfl, ⟨[.slice A9 x.f9.length c9], [.slice A10 x.f10.length c10, .slice A11 x.f11.length c11, .string x.f12], rfl, ⟨A9, c9, rfl, l9, g9⟩, ⟨[.slice A10 x.f10.length c10], [.slice A11 x.f11.length c11, .string x.f12], rfl, ⟨A10, c10, rfl, l10, g10⟩, ⟨[.slice A11 x.f11.length c11], [.string x.f12], rfl, ⟨A11, c11, rfl, l11, g11⟩, rfl⟩⟩⟩⟩⟩⟩⟩⟩⟩⟩⟩⟩
theorem k99_mkM (w : World) (base : Nat) (ok : Nat → Prop) (x : S99) {v9 : Value} (g9 : (Kd.int .i64).R 3 w base ok v9 x.f9) {v10 : Value} (g10 : Kd.string.R 9 w base ok v10 x.f10) {v11 : Value} (g11 : Kd.string.R 9 w base ok v11 x.f11) : k99.M w base ok x [.int .i64 x.f0, .string x.f1, .string x.f2, .int .i64 x.f3, .int .i64 x.f4, .string x.f5, .bool x.f6, .int .i64 x.f7, .int .i64 x.f8, v9, v10, v11, .string x.f12] := ⟨[.int .i64 x.f0], [.string x.f1, .string x.f2, .int .i64 x.f3, .int .i64 x.f4, .string x.f5, .bool x.f6, .int .i64 x.f7, .int .i64 x.f8, v9, v10, v11, .string x.f12], rfl, rfl, ⟨[.string x.f1], [.string x.f2, .int .i64 x.f3, .int .i64 x.f4, .string x.f5, .bool x.f6, .int .i64 x.f7, .int .i64 x.f8, v9, v10, v11, .string x.f12], rfl, rfl, ⟨[.string x.f2], [.int .i64 x.f3, .int .i64 x.f4, .string x.f5, .bool x.f6, .int .i64 x.f7, .int .i64 x.f8, v9, v10, v11, .string x.f12], rfl, rfl, ⟨[.int .i64 x.f3], [.int .i64 x.f4, .string x.f5, .bool x.f6, .int .i64 x.f7, .int .i64 x.f8, v9, v10, v11, .string x.f12], rfl, rfl, ⟨[.int .i64 x.f4], [.string x.f5, .bool x.f6, .int .i64 x.f7, .int .i64 x.f8, v9, v10, v11, .string x.f12], rfl, rfl, ⟨[.string x.f5], [.bool x.f6, .int .i64 x.f7, .int .i64 x.f8, v9, v10, v11, .string x.f12], rfl, rfl, ⟨[.bool x.f6], [.int .i64 x.f7, .int .i64 x.f8, v9, v10, v11, .string x.f12], rfl, rfl, ⟨[.int .i64 x.f7], [.int .i64 x.f8, v9, v10, v11, .string x.f12], rfl, rfl, ⟨[.int .i64 x.f8], [v9, v10, v11, .string x.f12], rfl, rfl, ⟨[v9], [v10, v11, .string x.f12], rfl, ⟨v9, rfl, g9⟩, ⟨[v10], [v11, .string x.f12], rfl, ⟨v10, rfl, g10⟩, ⟨[v11], [.string x.f12], rfl, ⟨v11, rfl, g11⟩, rfl⟩⟩⟩⟩⟩⟩⟩⟩⟩⟩⟩⟩
def rd_T99 (xs : List S99) (i : Int) : S99 := xs.getD i.toNat z99
theorem at_T99 {w : World} {A : Option Addr} {n : Nat} {xs : List S99} (h : Kd.C k99 w A n xs) (i : Int) (h0 : 0 ≤ i) (h1 : i < n) : ∃ ad A9 c9 A10 c10 A11 c11, A = some ad ∧ w.cell? (ad.add (i.toNat * 13)) = some (.int .i64 (rd_T99 xs i).f0) ∧ w.cell? ⟨(ad.add (i.toNat * 13)).block, (ad.add (i.toNat * 13)).off + 1, none⟩ = some (.string (rd_T99 xs i).f1) ∧ w.cell? ⟨(ad.add (i.toNat * 13)).block, (ad.add (i.toNat * 13)).off + 2, none⟩ = some (.string (rd_T99 xs i).f2) ∧ w.cell? ⟨(ad.add (i.toNat * 13)).block, (ad.add (i.toNat * 13)).off + 3, none⟩ = some (.int .i64 (rd_T99 xs i).f3) ∧ w.cell? ⟨(ad.add (i.toNat * 13)).block, (ad.add (i.toNat * 13)).off + 4, none⟩ = some (.int .i64 (rd_T99 xs i).f4) ∧ w.cell? ⟨(ad.add (i.toNat * 13)).block, (ad.add (i.toNat * 13)).off + 5, none⟩ = some (.string (rd_T99 xs i).f5) ∧ w.cell? ⟨(ad.add (i.toNat * 13)).block, (ad.add (i.toNat * 13)).off + 6, none⟩ = some (.bool (rd_T99 xs i).f6) ∧ w.cell? ⟨(ad.add (i.toNat * 13)).block, (ad.add (i.toNat * 13)).off + 7, none⟩ = some (.int .i64 (rd_T99 xs i).f7) ∧ w.cell? ⟨(ad.add (i.toNat * 13)).block, (ad.add (i.toNat * 13)).off + 8, none⟩ = some (.int .i64 (rd_T99 xs i).f8) ∧ w.cell? ⟨(ad.add (i.toNat * 13)).block, (ad.add (i.toNat * 13)).off + 9, none⟩ = some (.slice A9 (rd_T99 xs i).f9.length c9) ∧ w.cell? ⟨(ad.add (i.toNat * 13)).block, (ad.add (i.toNat * 13)).off + 10, none⟩ = some (.slice A10 (rd_T99 xs i).f10.length c10) ∧ w.cell? ⟨(ad.add (i.toNat * 13)).block, (ad.add (i.toNat * 13)).off + 11, none⟩ = some (.slice A11 (rd_T99 xs i).f11.length c11) ∧ w.cell? ⟨(ad.add (i.toNat * 13)).block, (ad.add (i.toNat * 13)).off + 12, none⟩ = some (.string (rd_T99 xs i).f12) ∧ (rd_T99 xs i).f9.length ≤ c9 ∧ (Kd.int .i64).C w A9 (rd_T99 xs i).f9.length (rd_T99 xs i).f9 ∧ (rd_T99 xs i).f10.length ≤ c10 ∧ Kd.string.C w A10 (rd_T99 xs i).f10.length (rd_T99 xs i).f10 ∧ (rd_T99 xs i).f11.length ≤ c11 ∧ Kd.string.C w A11 (rd_T99 xs i).f11.length (rd_T99 xs i).f11 := by
  obtain ⟨ad, c, e, _, hK, hc0⟩ := Kd.C_get h z99 i h0 h1
  have hc : ∀ j u, c[j]? = some u → w.cell? (ad.add (i.toNat * 13 + j)) = some u := hc0
  obtain ⟨A9, c9, A10, c10, A11, c11, rfl, l9, g9, l10, g10, l11, g11⟩ := k99_open hK
  exact ⟨ad, A9, c9, A10, c10, A11, c11, e, hc 0 _ rfl, by rw [← add_field _ _ 1 (by omega)]; exact hc 1 _ rfl, by rw [← add_field _ _ 2 (by omega)]; exact hc 2 _ rfl, by rw [← add_field _ _ 3 (by omega)]; exact hc 3 _ rfl, by rw [← add_field _ _ 4 (by omega)]; exact hc 4 _ rfl, by rw [← add_field _ _ 5 (by omega)]; exact hc 5 _ rfl, by rw [← add_field _ _ 6 (by omega)]; exact hc 6 _ rfl, by rw [← add_field _ _ 7 (by omega)]; exact hc 7 _ rfl, by rw [← add_field _ _ 8 (by omega)]; exact hc 8 _ rfl, by rw [← add_field _ _ 9 (by omega)]; exact hc 9 _ rfl, by rw [← add_field _ _ 10 (by omega)]; exact hc 10 _ rfl, by rw [← add_field _ _ 11 (by omega)]; exact hc 11 _ rfl, by rw [← add_field _ _ 12 (by omega)]; exact hc 12 _ rfl, l9, g9, l10, g10, l11, g11⟩

/-! #### struct type 224 -/
structure S224 where
  f0 : Int
  f1 : Int
def z224 : S224 := ⟨(0 : Int), (0 : Int)⟩
def k224 : Kd S224 := Kd.iso (Kd.pair (Kd.int .i64) (Kd.int .i64)) (fun x : S224 => (x.f0, x.f1))
theorem k224_open {w : World} {x : S224} {cs : List Value} (h : k224.K w x cs) : cs = [.int .i64 x.f0, .int .i64 x.f1] := by
  obtain ⟨_, _, rfl, rfl, rfl⟩ := h
  exact rfl
theorem k224_openM {w : World} {base : Nat} {ok : Nat → Prop} {x : S224} {cs : List Value} (h : k224.M w base ok x cs) : cs = [.int .i64 x.f0, .int .i64 x.f1] := by
  obtain ⟨_, _, rfl, rfl, rfl⟩ := h
  exact rfl
theorem k224_mk (w : World) (x : S224)  : k224.K w x [.int .i64 x.f0, .int .i64 x.f1] := ⟨[.int .i64 x.f0], [.int .i64 x.f1], rfl, rfl, rfl⟩
theorem k224_mkM (w : World) (base : Nat) (ok : Nat → Prop) (x : S224)  : k224.M w base ok x [.int .i64 x.f0, .int .i64 x.f1] := ⟨[.int .i64 x.f0], [.int .i64 x.f1], rfl, rfl, rfl⟩
def rd_T224 (xs : List S224) (i : Int) : S224 := xs.getD i.toNat z224
theorem at_T224 {w : World} {A : Option Addr} {n : Nat} {xs : List S224} (h : Kd.C k224 w A n xs) (i : Int) (h0 : 0 ≤ i) (h1 : i < n) : ∃ ad , A = some ad ∧ w.cell? (ad.add (i.toNat * 2)) = some (.int .i64 (rd_T224 xs i).f0) ∧ w.cell? ⟨(ad.add (i.toNat * 2)).block, (ad.add (i.toNat * 2)).off + 1, none⟩ = some (.int .i64 (rd_T224 xs i).f1) := by
  obtain ⟨ad, c, e, _, hK, hc0⟩ := Kd.C_get h z224 i h0 h1
  have hc : ∀ j u, c[j]? = some u → w.cell? (ad.add (i.toNat * 2 + j)) = some u := hc0
  obtain rfl := k224_open hK
  exact ⟨ad, e, hc 0 _ rfl, by rw [← add_field _ _ 1 (by omega)]; exact hc 1 _ rfl⟩

def rd_L7 (xs : List (List S224)) (i : Int) : (List S224) := xs.getD i.toNat ([] : List S224)
theorem at_L7 {w : World} {A : Option Addr} {n : Nat} {xs : List (List S224)} (h : Kd.C (Kd.slice 224 k224) w A n xs) (i : Int) (h0 : 0 ≤ i) (h1 : i < n) : ∃ ad A0 c0, A = some ad ∧ w.cell? (ad.add i.toNat) = some (.slice A0 (rd_L7 xs i).length c0) ∧ (rd_L7 xs i).length ≤ c0 ∧ k224.C w A0 (rd_L7 xs i).length (rd_L7 xs i) := by
  obtain ⟨ad, c, e, _, hK, hc0⟩ := Kd.C_get h ([] : List S224) i h0 h1
  have hc : ∀ j u, c[j]? = some u → w.cell? (ad.add (i.toNat * 1 + j)) = some u := hc0
  obtain ⟨A0, c0, rfl, l0, g0⟩ := hK
  exact ⟨ad, A0, c0, e, by have hq := hc 0 _ rfl; rwa [Nat.mul_one, Nat.add_zero] at hq, l0, g0⟩

/-! #### struct type 187 -/
structure S187 where
  f0 : ByteArray
  f1 : Int
  f2 : Int
  f3 : Int
  f4 : Int
  f5 : (List S224)
  f6 : ByteArray
def z187 : S187 := ⟨(⟨#[]⟩ : ByteArray), (0 : Int), (0 : Int), (0 : Int), (0 : Int), ([] : List S224), (⟨#[]⟩ : ByteArray)⟩
def k187 : Kd S187 := Kd.iso (Kd.pair Kd.string (Kd.pair (Kd.int .i64) (Kd.pair (Kd.int .i64) (Kd.pair (Kd.int .i64) (Kd.pair (Kd.int .i64) (Kd.pair (Kd.slice 224 k224) Kd.string)))))) (fun x : S187 => (x.f0, x.f1, x.f2, x.f3, x.f4, x.f5, x.f6))
theorem k187_open {w : World} {x : S187} {cs : List Value} (h : k187.K w x cs) : ∃ A5 c5, cs = [.string x.f0, .int .i64 x.f1, .int .i64 x.f2, .int .i64 x.f3, .int .i64 x.f4, .slice A5 x.f5.length c5, .string x.f6] ∧ x.f5.length ≤ c5 ∧ k224.C w A5 x.f5.length x.f5 := by
  obtain ⟨_, _, rfl, rfl, ⟨_, _, rfl, rfl, ⟨_, _, rfl, rfl, ⟨_, _, rfl, rfl, ⟨_, _, rfl, rfl, ⟨_, _, rfl, ⟨A5, c5, rfl, l5, g5⟩, rfl⟩⟩⟩⟩⟩⟩ := h
  exact ⟨A5, c5, rfl, l5, g5⟩
theorem k187_openM {w : World} {base : Nat} {ok : Nat → Prop} {x : S187} {cs : List Value} (h : k187.M w base ok x cs) : ∃ v5, cs = [.string x.f0, .int .i64 x.f1, .int .i64 x.f2, .int .i64 x.f3, .int .i64 x.f4, v5, .string x.f6] ∧ k224.R 224 w base ok v5 x.f5 := by
  obtain ⟨_, _, rfl, rfl, ⟨_, _, rfl, rfl, ⟨_, _, rfl, rfl, ⟨_, _, rfl, rfl, ⟨_, _, rfl, rfl, ⟨_, _, rfl, ⟨v5, rfl, g5⟩, rfl⟩⟩⟩⟩⟩⟩ := h
  exact ⟨v5, rfl, g5⟩
theorem k187_mk (w : World) (x : S187) {A5 : Option Addr} {c5 : Nat} (l5 : x.f5.length ≤ c5) (g5 : k224.C w A5 x.f5.length x.f5) : k187.K w x [.string x.f0, .int .i64 x.f1, .int .i64 x.f2, .int .i64 x.f3, .int .i64 x.f4, .slice A5 x.f5.length c5, .string x.f6] := ⟨[.string x.f0], [.int .i64 x.f1, .int .i64 x.f2, .int .i64 x.f3, .int .i64 x.f4, .slice A5 x.f5.length c5, .string x.f6], rfl, rfl, ⟨[.int .i64 x.f1], [.int .i64 x.f2, .int .i64 x.f3, .int .i64 x.f4, .slice A5 x.f5.length c5, .string x.f6], rfl, rfl, ⟨[.int .i64 x.f2], [.int .i64 x.f3, .int .i64 x.f4, .slice A5 x.f5.length c5, .string x.f6], rfl, rfl, ⟨[.int .i64 x.f3], [.int .i64 x.f4, .slice A5 x.f5.length c5, .string x.f6], rfl, rfl, ⟨[.int .i64 x.f4], [.slice A5 x.f5.length c5, .string x.f6], rfl, rfl, ⟨[.slice A5 x.f5.length c5], [.string x.f6], rfl, ⟨A5, c5, rfl, l5, g5⟩, rfl⟩⟩⟩⟩⟩⟩
theorem k187_mkM (w : World) (base : Nat) (ok : Nat → Prop) (x : S187) {v5 : Value} (g5 : k224.R 224 w base ok v5 x.f5) : k187.M w base ok x [.string x.f0, .int .i64 x.f1, .int .i64 x.f2, .int .i64 x.f3, .int .i64 x.f4, v5, .string x.f6] := ⟨[.string x.f0], [.int .i64 x.f1, .int .i64 x.f2, .int .i64 x.f3, .int .i64 x.f4, v5, .string x.f6], rfl, rfl, ⟨[.int .i64 x.f1], [.int .i64 x.f2, .int .i64 x.f3, .int .i64 x.f4, v5, .string x.f6], rfl, rfl, ⟨[.int .i64 x.f2], [.int .i64 x.f3, .int .i64 x.f4, v5, .string x.f6], rfl, rfl, ⟨[.int .i64 x.f3], [.int .i64 x.f4, v5, .string x.f6], rfl, rfl, ⟨[.int .i64 x.f4], [v5, .string x.f6], rfl, rfl, ⟨[v5], [.string x.f6], rfl, ⟨v5, rfl, g5⟩, rfl⟩⟩⟩⟩⟩⟩
def rd_T187 (xs : List S187) (i : Int) : S187 := xs.getD i.toNat z187
theorem at_T187 {w : World} {A : Option Addr} {n : Nat} {xs : List S187} (h : Kd.C k187 w A n xs) (i : Int) (h0 : 0 ≤ i) (h1 : i < n) : ∃ ad A5 c5, A = some ad ∧ w.cell? (ad.add (i.toNat * 7)) = some (.string (rd_T187 xs i).f0) ∧ w.cell? ⟨(ad.add (i.toNat * 7)).block, (ad.add (i.toNat * 7)).off + 1, none⟩ = some (.int .i64 (rd_T187 xs i).f1) ∧ w.cell? ⟨(ad.add (i.toNat * 7)).block, (ad.add (i.toNat * 7)).off + 2, none⟩ = some (.int .i64 (rd_T187 xs i).f2) ∧ w.cell? ⟨(ad.add (i.toNat * 7)).block, (ad.add (i.toNat * 7)).off + 3, none⟩ = some (.int .i64 (rd_T187 xs i).f3) ∧ w.cell? ⟨(ad.add (i.toNat * 7)).block, (ad.add (i.toNat * 7)).off + 4, none⟩ = some (.int .i64 (rd_T187 xs i).f4) ∧ w.cell? ⟨(ad.add (i.toNat * 7)).block, (ad.add (i.toNat * 7)).off + 5, none⟩ = some (.slice A5 (rd_T187 xs i).f5.length c5) ∧ w.cell? ⟨(ad.add (i.toNat * 7)).block, (ad.add (i.toNat * 7)).off + 6, none⟩ = some (.string (rd_T187 xs i).f6) ∧ (rd_T187 xs i).f5.length ≤ c5 ∧ k224.C w A5 (rd_T187 xs i).f5.length (rd_T187 xs i).f5 := by
  obtain ⟨ad, c, e, _, hK, hc0⟩ := Kd.C_get h z187 i h0 h1
  have hc : ∀ j u, c[j]? = some u → w.cell? (ad.add (i.toNat * 7 + j)) = some u := hc0
  obtain ⟨A5, c5, rfl, l5, g5⟩ := k187_open hK
  exact ⟨ad, A5, c5, e, hc 0 _ rfl, by rw [← add_field _ _ 1 (by omega)]; exact hc 1 _ rfl, by rw [← add_field _ _ 2 (by omega)]; exact hc 2 _ rfl, by rw [← add_field _ _ 3 (by omega)]; exact hc 3 _ rfl, by rw [← add_field _ _ 4 (by omega)]; exact hc 4 _ rfl, by rw [← add_field _ _ 5 (by omega)]; exact hc 5 _ rfl, by rw [← add_field _ _ 6 (by omega)]; exact hc 6 _ rfl, l5, g5⟩

/-! #### struct type 190 -/
structure S190 where
  f0 : ByteArray
  f1 : ByteArray
def z190 : S190 := ⟨(⟨#[]⟩ : ByteArray), (⟨#[]⟩ : ByteArray)⟩
def k190 : Kd S190 := Kd.iso (Kd.pair Kd.string Kd.string) (fun x : S190 => (x.f0, x.f1))
theorem k190_open {w : World} {x : S190} {cs : List Value} (h : k190.K w x cs) : cs = [.string x.f0, .string x.f1] := by
  obtain ⟨_, _, rfl, rfl, rfl⟩ := h
  exact rfl
theorem k190_openM {w : World} {base : Nat} {ok : Nat → Prop} {x : S190} {cs : List Value} (h : k190.M w base ok x cs) : cs = [.string x.f0, .string x.f1] := by
  obtain ⟨_, _, rfl, rfl, rfl⟩ := h
  exact rfl
theorem k190_mk (w : World) (x : S190)  : k190.K w x [.string x.f0, .string x.f1] := ⟨[.string x.f0], [.string x.f1], rfl, rfl, rfl⟩
theorem k190_mkM (w : World) (base : Nat) (ok : Nat → Prop) (x : S190)  : k190.M w base ok x [.string x.f0, .string x.f1] := ⟨[.string x.f0], [.string x.f1], rfl, rfl, rfl⟩
def rd_T190 (xs : List S190) (i : Int) : S190 := xs.getD i.toNat z190
theorem at_T190 {w : World} {A : Option Addr} {n : Nat} {xs : List S190} (h : Kd.C k190 w A n xs) (i : Int) (h0 : 0 ≤ i) (h1 : i < n) : ∃ ad , A = some ad ∧ w.cell? (ad.add (i.toNat * 2)) = some (.string (rd_T190 xs i).f0) ∧ w.cell? ⟨(ad.add (i.toNat * 2)).block, (ad.add (i.toNat * 2)).off + 1, none⟩ = some (.string (rd_T190 xs i).f1) := by
  obtain ⟨ad, c, e, _, hK, hc0⟩ := Kd.C_get h z190 i h0 h1
  have hc : ∀ j u, c[j]? = some u → w.cell? (ad.add (i.toNat * 2 + j)) = some u := hc0
  obtain rfl := k190_open hK
  exact ⟨ad, e, hc 0 _ rfl, by rw [← add_field _ _ 1 (by omega)]; exact hc 1 _ rfl⟩

def rd_L10 (xs : List (List S99)) (i : Int) : (List S99) := xs.getD i.toNat ([] : List S99)
theorem at_L10 {w : World} {A : Option Addr} {n : Nat} {xs : List (List S99)} (h : Kd.C (Kd.slice 99 k99) w A n xs) (i : Int) (h0 : 0 ≤ i) (h1 : i < n) : ∃ ad A0 c0, A = some ad ∧ w.cell? (ad.add i.toNat) = some (.slice A0 (rd_L10 xs i).length c0) ∧ (rd_L10 xs i).length ≤ c0 ∧ k99.C w A0 (rd_L10 xs i).length (rd_L10 xs i) := by
  obtain ⟨ad, c, e, _, hK, hc0⟩ := Kd.C_get h ([] : List S99) i h0 h1
  have hc : ∀ j u, c[j]? = some u → w.cell? (ad.add (i.toNat * 1 + j)) = some u := hc0
  obtain ⟨A0, c0, rfl, l0, g0⟩ := hK
  exact ⟨ad, A0, c0, e, by have hq := hc 0 _ rfl; rwa [Nat.mul_one, Nat.add_zero] at hq, l0, g0⟩

def rd_L11 (xs : List (List S187)) (i : Int) : (List S187) := xs.getD i.toNat ([] : List S187)
theorem at_L11 {w : World} {A : Option Addr} {n : Nat} {xs : List (List S187)} (h : Kd.C (Kd.slice 187 k187) w A n xs) (i : Int) (h0 : 0 ≤ i) (h1 : i < n) : ∃ ad A0 c0, A = some ad ∧ w.cell? (ad.add i.toNat) = some (.slice A0 (rd_L11 xs i).length c0) ∧ (rd_L11 xs i).length ≤ c0 ∧ k187.C w A0 (rd_L11 xs i).length (rd_L11 xs i) := by
  obtain ⟨ad, c, e, _, hK, hc0⟩ := Kd.C_get h ([] : List S187) i h0 h1
  have hc : ∀ j u, c[j]? = some u → w.cell? (ad.add (i.toNat * 1 + j)) = some u := hc0
  obtain ⟨A0, c0, rfl, l0, g0⟩ := hK
  exact ⟨ad, A0, c0, e, by have hq := hc 0 _ rfl; rwa [Nat.mul_one, Nat.add_zero] at hq, l0, g0⟩

def rd_L12 (xs : List (List S190)) (i : Int) : (List S190) := xs.getD i.toNat ([] : List S190)
theorem at_L12 {w : World} {A : Option Addr} {n : Nat} {xs : List (List S190)} (h : Kd.C (Kd.slice 190 k190) w A n xs) (i : Int) (h0 : 0 ≤ i) (h1 : i < n) : ∃ ad A0 c0, A = some ad ∧ w.cell? (ad.add i.toNat) = some (.slice A0 (rd_L12 xs i).length c0) ∧ (rd_L12 xs i).length ≤ c0 ∧ k190.C w A0 (rd_L12 xs i).length (rd_L12 xs i) := by
  obtain ⟨ad, c, e, _, hK, hc0⟩ := Kd.C_get h ([] : List S190) i h0 h1
  have hc : ∀ j u, c[j]? = some u → w.cell? (ad.add (i.toNat * 1 + j)) = some u := hc0
  obtain ⟨A0, c0, rfl, l0, g0⟩ := hK
  exact ⟨ad, A0, c0, e, by have hq := hc 0 _ rfl; rwa [Nat.mul_one, Nat.add_zero] at hq, l0, g0⟩

/-! #### struct type 26 -/
structure S26 where
  f0 : (List S99)
  f1 : (List S187)
  f2 : (List S190)
def z26 : S26 := ⟨([] : List S99), ([] : List S187), ([] : List S190)⟩
def k26 : Kd S26 := Kd.iso (Kd.pair (Kd.slice 99 k99) (Kd.pair (Kd.slice 187 k187) (Kd.slice 190 k190))) (fun x : S26 => (x.f0, x.f1, x.f2))
theorem k26_open {w : World} {x : S26} {cs : List Value} (h : k26.K w x cs) : ∃ A0 c0 A1 c1 A2 c2, cs = [.slice A0 x.f0.length c0, .slice A1 x.f1.length c1, .slice A2 x.f2.length c2] ∧ x.f0.length ≤ c0 ∧ k99.C w A0 x.f0.length x.f0 ∧ x.f1.length ≤ c1 ∧ k187.C w A1 x.f1.length x.f1 ∧ x.f2.length ≤ c2 ∧ k190.C w A2 x.f2.length x.f2 := by
  obtain ⟨_, _, rfl, ⟨A0, c0, rfl, l0, g0⟩, ⟨_, _, rfl, ⟨A1, c1, rfl, l1, g1⟩, ⟨A2, c2, rfl, l2, g2⟩⟩⟩ := h
  exact ⟨A0, c0, A1, c1, A2, c2, rfl, l0, g0, l1, g1, l2, g2⟩
theorem k26_openM {w : World} {base : Nat} {ok : Nat → Prop} {x : S26} {cs : List Value} (h : k26.M w base ok x cs) : ∃ v0 v1 v2, cs = [v0, v1, v2] ∧ k99.R 99 w base ok v0 x.f0 ∧ k187.R 187 w base ok v1 x.f1 ∧ k190.R 190 w base ok v2 x.f2 := by
  obtain ⟨_, _, rfl, ⟨v0, rfl, g0⟩, ⟨_, _, rfl, ⟨v1, rfl, g1⟩, ⟨v2, rfl, g2⟩⟩⟩ := h
  exact ⟨v0, v1, v2, rfl, g0, g1, g2⟩
theorem k26_mk (w : World) (x : S26) {A0 : Option Addr} {c0 : Nat} (l0 : x.f0.length ≤ c0) (g0 : k99.C w A0 x.f0.length x.f0) {A1 : Option Addr} {c1 : Nat} (l1 : x.f1.length ≤ c1) (g1 : k187.C w A1 x.f1.length x.f1) {A2 : Option Addr} {c2 : Nat} (l2 : x.f2.length ≤ c2) (g2 : k190.C w A2 x.f2.length x.f2) : k26.K w x [.slice A0 x.f0.length c0, .slice A1 x.f1.length c1, .slice A2 x.f2.length c2] := ⟨[.slice A0 x.f0.length c0], [.slice A1 x.f1.length c1, .slice A2 x.f2.length c2], rfl, ⟨A0, c0, rfl, l0, g0⟩, ⟨[.slice A1 x.f1.length c1], [.slice A2 x.f2.length c2], rfl, ⟨A1, c1, rfl, l1, g1⟩, ⟨A2, c2, rfl, l2, g2⟩⟩⟩
theorem k26_mkM (w : World) (base : Nat) (ok : Nat → Prop) (x : S26) {v0 : Value} (g0 : k99.R 99 w base ok v0 x.f0) {v1 : Value} (g1 : k187.R 187 w base ok v1 x.f1) {v2 : Value} (g2 : k190.R 190 w base ok v2 x.f2) : k26.M w base ok x [v0, v1, v2] := ⟨[v0], [v1, v2], rfl, ⟨v0, rfl, g0⟩, ⟨[v1], [v2], rfl, ⟨v1, rfl, g1⟩, ⟨v2, rfl, g2⟩⟩⟩
def rd_T26 (xs : List S26) (i : Int) : S26 := xs.getD i.toNat z26
theorem at_T26 {w : World} {A : Option Addr} {n : Nat} {xs : List S26} (h : Kd.C k26 w A n xs) (i : Int) (h0 : 0 ≤ i) (h1 : i < n) : ∃ ad A0 c0 A1 c1 A2 c2, A = some ad ∧ w.cell? (ad.add (i.toNat * 3)) = some (.slice A0 (rd_T26 xs i).f0.length c0) ∧ w.cell? ⟨(ad.add (i.toNat * 3)).block, (ad.add (i.toNat * 3)).off + 1, none⟩ = some (.slice A1 (rd_T26 xs i).f1.length c1) ∧ w.cell? ⟨(ad.add (i.toNat * 3)).block, (ad.add (i.toNat * 3)).off + 2, none⟩ = some (.slice A2 (rd_T26 xs i).f2.length c2) ∧ (rd_T26 xs i).f0.length ≤ c0 ∧ k99.C w A0 (rd_T26 xs i).f0.length (rd_T26 xs i).f0 ∧ (rd_T26 xs i).f1.length ≤ c1 ∧ k187.C w A1 (rd_T26 xs i).f1.length (rd_T26 xs i).f1 ∧ (rd_T26 xs i).f2.length ≤ c2 ∧ k190.C w A2 (rd_T26 xs i).f2.length (rd_T26 xs i).f2 := by
  obtain ⟨ad, c, e, _, hK, hc0⟩ := Kd.C_get h z26 i h0 h1
  have hc : ∀ j u, c[j]? = some u → w.cell? (ad.add (i.toNat * 3 + j)) = some u := hc0
  obtain ⟨A0, c0, A1, c1, A2, c2, rfl, l0, g0, l1, g1, l2, g2⟩ := k26_open hK
  exact ⟨ad, A0, c0, A1, c1, A2, c2, e, hc 0 _ rfl, by rw [← add_field _ _ 1 (by omega)]; exact hc 1 _ rfl, by rw [← add_field _ _ 2 (by omega)]; exact hc 2 _ rfl, l0, g0, l1, g1, l2, g2⟩

/-! #### struct type 138 -/
structure S138 where
  f0 : Int
  f1 : (List Int)
  f2 : Bool
  f3 : Bool
  f4 : Int
def z138 : S138 := ⟨(0 : Int), ([] : List Int), false, false, (0 : Int)⟩
def k138 : Kd S138 := Kd.iso (Kd.pair (Kd.int .i64) (Kd.pair (Kd.slice 3 (Kd.int .i64)) (Kd.pair Kd.bool (Kd.pair Kd.bool (Kd.int .i64))))) (fun x : S138 => (x.f0, x.f1, x.f2, x.f3, x.f4))
theorem k138_open {w : World} {x : S138} {cs : List Value} (h : k138.K w x cs) : ∃ A1 c1, cs = [.int .i64 x.f0, .slice A1 x.f1.length c1, .bool x.f2, .bool x.f3, .int .i64 x.f4] ∧ x.f1.length ≤ c1 ∧ (Kd.int .i64).C w A1 x.f1.length x.f1 := by
  obtain ⟨_, _, rfl, rfl, ⟨_, _, rfl, ⟨A1, c1, rfl, l1, g1⟩, ⟨_, _, rfl, rfl, ⟨_, _, rfl, rfl, rfl⟩⟩⟩⟩ := h
  exact ⟨A1, c1, rfl, l1, g1⟩
theorem k138_openM {w : World} {base : Nat} {ok : Nat → Prop} {x : S138} {cs : List Value} (h : k138.M w base ok x cs) : ∃ v1, cs = [.int .i64 x.f0, v1, .bool x.f2, .bool x.f3, .int .i64 x.f4] ∧ (Kd.int .i64).R 3 w base ok v1 x.f1 := by
  obtain ⟨_, _, rfl, rfl, ⟨_, _, rfl, ⟨v1, rfl, g1⟩, ⟨_, _, rfl, rfl, ⟨_, _, rfl, rfl, rfl⟩⟩⟩⟩ := h
  exact ⟨v1, rfl, g1⟩
theorem k138_mk (w : World) (x : S138) {A1 : Option Addr} {c1 : Nat} (l1 : x.f1.length ≤ c1) (g1 : (Kd.int .i64).C w A1 x.f1.length x.f1) : k138.K w x [.int .i64 x.f0, .slice A1 x.f1.length c1, .bool x.f2, .bool x.f3, .int .i64 x.f4] := ⟨[.int .i64 x.f0], [.slice A1 x.f1.length c1, .bool x.f2, .bool x.f3, .int .i64 x.f4], rfl, rfl, ⟨[.slice A1 x.f1.length c1], [.bool x.f2, .bool x.f3, .int .i64 x.f4], rfl, ⟨A1, c1, rfl, l1, g1⟩, ⟨[.bool x.f2], [.bool x.f3, .int .i64 x.f4], rfl, rfl, ⟨[.bool x.f3], [.int .i64 x.f4], rfl, rfl, rfl⟩⟩⟩⟩
theorem k138_mkM (w : World) (base : Nat) (ok : Nat → Prop) (x : S138) {v1 : Value} (g1 : (Kd.int .i64).R 3 w base ok v1 x.f1) : k138.M w base ok x [.int .i64 x.f0, v1, .bool x.f2, .bool x.f3, .int .i64 x.f4] := ⟨[.int .i64 x.f0], [v1, .bool x.f2, .bool x.f3, .int .i64 x.f4], rfl, rfl, ⟨[v1], [.bool x.f2, .bool x.f3, .int .i64 x.f4], rfl, ⟨v1, rfl, g1⟩, ⟨[.bool x.f2], [.bool x.f3, .int .i64 x.f4], rfl, rfl, ⟨[.bool x.f3], [.int .i64 x.f4], rfl, rfl, rfl⟩⟩⟩⟩
def rd_T138 (xs : List S138) (i : Int) : S138 := xs.getD i.toNat z138
theorem at_T138 {w : World} {A : Option Addr} {n : Nat} {xs : List S138} (h : Kd.C k138 w A n xs) (i : Int) (h0 : 0 ≤ i) (h1 : i < n) : ∃ ad A1 c1, A = some ad ∧ w.cell? (ad.add (i.toNat * 5)) = some (.int .i64 (rd_T138 xs i).f0) ∧ w.cell? ⟨(ad.add (i.toNat * 5)).block, (ad.add (i.toNat * 5)).off + 1, none⟩ = some (.slice A1 (rd_T138 xs i).f1.length c1) ∧ w.cell? ⟨(ad.add (i.toNat * 5)).block, (ad.add (i.toNat * 5)).off + 2, none⟩ = some (.bool (rd_T138 xs i).f2) ∧ w.cell? ⟨(ad.add (i.toNat * 5)).block, (ad.add (i.toNat * 5)).off + 3, none⟩ = some (.bool (rd_T138 xs i).f3) ∧ w.cell? ⟨(ad.add (i.toNat * 5)).block, (ad.add (i.toNat * 5)).off + 4, none⟩ = some (.int .i64 (rd_T138 xs i).f4) ∧ (rd_T138 xs i).f1.length ≤ c1 ∧ (Kd.int .i64).C w A1 (rd_T138 xs i).f1.length (rd_T138 xs i).f1 := by
  obtain ⟨ad, c, e, _, hK, hc0⟩ := Kd.C_get h z138 i h0 h1
  have hc : ∀ j u, c[j]? = some u → w.cell? (ad.add (i.toNat * 5 + j)) = some u := hc0
  obtain ⟨A1, c1, rfl, l1, g1⟩ := k138_open hK
  exact ⟨ad, A1, c1, e, hc 0 _ rfl, by rw [← add_field _ _ 1 (by omega)]; exact hc 1 _ rfl, by rw [← add_field _ _ 2 (by omega)]; exact hc 2 _ rfl, by rw [← add_field _ _ 3 (by omega)]; exact hc 3 _ rfl, by rw [← add_field _ _ 4 (by omega)]; exact hc 4 _ rfl, l1, g1⟩

/-! #### struct type 140 -/
structure S140 where
  f0 : Int
  f1 : (List Int)
  f2 : S138
def z140 : S140 := ⟨(0 : Int), ([] : List Int), z138⟩
def k140 : Kd S140 := Kd.iso (Kd.pair (Kd.int .i64) (Kd.pair (Kd.slice 3 (Kd.int .i64)) k138)) (fun x : S140 => (x.f0, x.f1, x.f2))
theorem k140_open {w : World} {x : S140} {cs : List Value} (h : k140.K w x cs) : ∃ A1 c1 A3 c3, cs = [.int .i64 x.f0, .slice A1 x.f1.length c1, .int .i64 x.f2.f0, .slice A3 x.f2.f1.length c3, .bool x.f2.f2, .bool x.f2.f3, .int .i64 x.f2.f4] ∧ x.f1.length ≤ c1 ∧ (Kd.int .i64).C w A1 x.f1.length x.f1 ∧ x.f2.f1.length ≤ c3 ∧ (Kd.int .i64).C w A3 x.f2.f1.length x.f2.f1 := by
  obtain ⟨_, _, rfl, rfl, ⟨_, _, rfl, ⟨A1, c1, rfl, l1, g1⟩, s2⟩⟩ := h
  obtain ⟨A3, c3, rfl, l3, g3⟩ := k138_open s2
  exact ⟨A1, c1, A3, c3, rfl, l1, g1, l3, g3⟩
theorem k140_openM {w : World} {base : Nat} {ok : Nat → Prop} {x : S140} {cs : List Value} (h : k140.M w base ok x cs) : ∃ v1 v3, cs = [.int .i64 x.f0, v1, .int .i64 x.f2.f0, v3, .bool x.f2.f2, .bool x.f2.f3, .int .i64 x.f2.f4] ∧ (Kd.int .i64).R 3 w base ok v1 x.f1 ∧ (Kd.int .i64).R 3 w base ok v3 x.f2.f1 := by
  obtain ⟨_, _, rfl, rfl, ⟨_, _, rfl, ⟨v1, rfl, g1⟩, s2⟩⟩ := h
  obtain ⟨v3, rfl, g3⟩ := k138_openM s2
  exact ⟨v1, v3, rfl, g1, g3⟩
theorem k140_mk (w : World) (x : S140) {A1 : Option Addr} {c1 : Nat} (l1 : x.f1.length ≤ c1) (g1 : (Kd.int .i64).C w A1 x.f1.length x.f1) {A3 : Option Addr} {c3 : Nat} (l3 : x.f2.f1.length ≤ c3) (g3 : (Kd.int .i64).C w A3 x.f2.f1.length x.f2.f1) : k140.K w x [.int .i64 x.f0, .slice A1 x.f1.length c1, .int .i64 x.f2.f0, .slice A3 x.f2.f1.length c3, .bool x.f2.f2, .bool x.f2.f3, .int .i64 x.f2.f4] := ⟨[.int .i64 x.f0], [.slice A1 x.f1.length c1, .int .i64 x.f2.f0, .slice A3 x.f2.f1.length c3, .bool x.f2.f2, .bool x.f2.f3, .int .i64 x.f2.f4], rfl, rfl, ⟨[.slice A1 x.f1.length c1], [.int .i64 x.f2.f0, .slice A3 x.f2.f1.length c3, .bool x.f2.f2, .bool x.f2.f3, .int .i64 x.f2.f4], rfl, ⟨A1, c1, rfl, l1, g1⟩, (k138_mk w x.f2 l3 g3)⟩⟩
theorem k140_mkM (w : World) (base : Nat) (ok : Nat → Prop) (x : S140) {v1 : Value} (g1 : (Kd.int .i64).R 3 w base ok v1 x.f1) {v3 : Value} (g3 : (Kd.int .i64).R 3 w base ok v3 x.f2.f1) : k140.M w base ok x [.int .i64 x.f0, v1, .int .i64 x.f2.f0, v3, .bool x.f2.f2, .bool x.f2.f3, .int .i64 x.f2.f4] := ⟨[.int .i64 x.f0], [v1, .int .i64 x.f2.f0, v3, .bool x.f2.f2, .bool x.f2.f3, .int .i64 x.f2.f4], rfl, rfl, ⟨[v1], [.int .i64 x.f2.f0, v3, .bool x.f2.f2, .bool x.f2.f3, .int .i64 x.f2.f4], rfl, ⟨v1, rfl, g1⟩, (k138_mkM w base ok x.f2 g3)⟩⟩
def rd_T140 (xs : List S140) (i : Int) : S140 := xs.getD i.toNat z140
theorem at_T140 {w : World} {A : Option Addr} {n : Nat} {xs : List S140} (h : Kd.C k140 w A n xs) (i : Int) (h0 : 0 ≤ i) (h1 : i < n) : ∃ ad A1 c1 A3 c3, A = some ad ∧ w.cell? (ad.add (i.toNat * 7)) = some (.int .i64 (rd_T140 xs i).f0) ∧ w.cell? ⟨(ad.add (i.toNat * 7)).block, (ad.add (i.toNat * 7)).off + 1, none⟩ = some (.slice A1 (rd_T140 xs i).f1.length c1) ∧ w.cell? ⟨(ad.add (i.toNat * 7)).block, (ad.add (i.toNat * 7)).off + 2, none⟩ = some (.int .i64 (rd_T140 xs i).f2.f0) ∧ w.cell? ⟨(ad.add (i.toNat * 7)).block, (ad.add (i.toNat * 7)).off + 3, none⟩ = some (.slice A3 (rd_T140 xs i).f2.f1.length c3) ∧ w.cell? ⟨(ad.add (i.toNat * 7)).block, (ad.add (i.toNat * 7)).off + 4, none⟩ = some (.bool (rd_T140 xs i).f2.f2) ∧ w.cell? ⟨(ad.add (i.toNat * 7)).block, (ad.add (i.toNat * 7)).off + 5, none⟩ = some (.bool (rd_T140 xs i).f2.f3) ∧ w.cell? ⟨(ad.add (i.toNat * 7)).block, (ad.add (i.toNat * 7)).off + 6, none⟩ = some (.int .i64 (rd_T140 xs i).f2.f4) ∧ (rd_T140 xs i).f1.length ≤ c1 ∧ (Kd.int .i64).C w A1 (rd_T140 xs i).f1.length (rd_T140 xs i).f1 ∧ (rd_T140 xs i).f2.f1.length ≤ c3 ∧ (Kd.int .i64).C w A3 (rd_T140 xs i).f2.f1.length (rd_T140 xs i).f2.f1 := by
  obtain ⟨ad, c, e, _, hK, hc0⟩ := Kd.C_get h z140 i h0 h1
  have hc : ∀ j u, c[j]? = some u → w.cell? (ad.add (i.toNat * 7 + j)) = some u := hc0
  obtain ⟨A1, c1, A3, c3, rfl, l1, g1, l3, g3⟩ := k140_open hK
  exact ⟨ad, A1, c1, A3, c3, e, hc 0 _ rfl, by rw [← add_field _ _ 1 (by omega)]; exact hc 1 _ rfl, by rw [← add_field _ _ 2 (by omega)]; exact hc 2 _ rfl, by rw [← add_field _ _ 3 (by omega)]; exact hc 3 _ rfl, by rw [← add_field _ _ 4 (by omega)]; exact hc 4 _ rfl, by rw [← add_field _ _ 5 (by omega)]; exact hc 5 _ rfl, by rw [← add_field _ _ 6 (by omega)]; exact hc 6 _ rfl, l1, g1, l3, g3⟩

/-! #### struct type 143 -/
structure S143 where
  f0 : ByteArray
  f1 : ByteArray
  f2 : Int
def z143 : S143 := ⟨(⟨#[]⟩ : ByteArray), (⟨#[]⟩ : ByteArray), (0 : Int)⟩
def k143 : Kd S143 := Kd.iso (Kd.pair Kd.string (Kd.pair Kd.string (Kd.int .i64))) (fun x : S143 => (x.f0, x.f1, x.f2))
theorem k143_open {w : World} {x : S143} {cs : List Value} (h : k143.K w x cs) : cs = [.string x.f0, .string x.f1, .int .i64 x.f2] := by
  obtain ⟨_, _, rfl, rfl, ⟨_, _, rfl, rfl, rfl⟩⟩ := h
  exact rfl
theorem k143_openM {w : World} {base : Nat} {ok : Nat → Prop} {x : S143} {cs : List Value} (h : k143.M w base ok x cs) : cs = [.string x.f0, .string x.f1, .int .i64 x.f2] := by
  obtain ⟨_, _, rfl, rfl, ⟨_, _, rfl, rfl, rfl⟩⟩ := h
  exact rfl
theorem k143_mk (w : World) (x : S143)  : k143.K w x [.string x.f0, .string x.f1, .int .i64 x.f2] := ⟨[.string x.f0], [.string x.f1, .int .i64 x.f2], rfl, rfl, ⟨[.string x.f1], [.int .i64 x.f2], rfl, rfl, rfl⟩⟩
theorem k143_mkM (w : World) (base : Nat) (ok : Nat → Prop) (x : S143)  : k143.M w base ok x [.string x.f0, .string x.f1, .int .i64 x.f2] := ⟨[.string x.f0], [.string x.f1, .int .i64 x.f2], rfl, rfl, ⟨[.string x.f1], [.int .i64 x.f2], rfl, rfl, rfl⟩⟩
def rd_T143 (xs : List S143) (i : Int) : S143 := xs.getD i.toNat z143
theorem at_T143 {w : World} {A : Option Addr} {n : Nat} {xs : List S143} (h : Kd.C k143 w A n xs) (i : Int) (h0 : 0 ≤ i) (h1 : i < n) : ∃ ad , A = some ad ∧ w.cell? (ad.add (i.toNat * 3)) = some (.string (rd_T143 xs i).f0) ∧ w.cell? ⟨(ad.add (i.toNat * 3)).block, (ad.add (i.toNat * 3)).off + 1, none⟩ = some (.string (rd_T143 xs i).f1) ∧ w.cell? ⟨(ad.add (i.toNat * 3)).block, (ad.add (i.toNat * 3)).off + 2, none⟩ = some (.int .i64 (rd_T143 xs i).f2) := by
  obtain ⟨ad, c, e, _, hK, hc0⟩ := Kd.C_get h z143 i h0 h1
  have hc : ∀ j u, c[j]? = some u → w.cell? (ad.add (i.toNat * 3 + j)) = some u := hc0
  obtain rfl := k143_open hK
  exact ⟨ad, e, hc 0 _ rfl, by rw [← add_field _ _ 1 (by omega)]; exact hc 1 _ rfl, by rw [← add_field _ _ 2 (by omega)]; exact hc 2 _ rfl⟩

def rd_L17 (xs : List (List S140)) (i : Int) : (List S140) := xs.getD i.toNat ([] : List S140)
theorem at_L17 {w : World} {A : Option Addr} {n : Nat} {xs : List (List S140)} (h : Kd.C (Kd.slice 140 k140) w A n xs) (i : Int) (h0 : 0 ≤ i) (h1 : i < n) : ∃ ad A0 c0, A = some ad ∧ w.cell? (ad.add i.toNat) = some (.slice A0 (rd_L17 xs i).length c0) ∧ (rd_L17 xs i).length ≤ c0 ∧ k140.C w A0 (rd_L17 xs i).length (rd_L17 xs i) := by
  obtain ⟨ad, c, e, _, hK, hc0⟩ := Kd.C_get h ([] : List S140) i h0 h1
  have hc : ∀ j u, c[j]? = some u → w.cell? (ad.add (i.toNat * 1 + j)) = some u := hc0
  obtain ⟨A0, c0, rfl, l0, g0⟩ := hK
  exact ⟨ad, A0, c0, e, by have hq := hc 0 _ rfl; rwa [Nat.mul_one, Nat.add_zero] at hq, l0, g0⟩

def rd_L18 (xs : List (List S143)) (i : Int) : (List S143) := xs.getD i.toNat ([] : List S143)
theorem at_L18 {w : World} {A : Option Addr} {n : Nat} {xs : List (List S143)} (h : Kd.C (Kd.slice 143 k143) w A n xs) (i : Int) (h0 : 0 ≤ i) (h1 : i < n) : ∃ ad A0 c0, A = some ad ∧ w.cell? (ad.add i.toNat) = some (.slice A0 (rd_L18 xs i).length c0) ∧ (rd_L18 xs i).length ≤ c0 ∧ k143.C w A0 (rd_L18 xs i).length (rd_L18 xs i) := by
  obtain ⟨ad, c, e, _, hK, hc0⟩ := Kd.C_get h ([] : List S143) i h0 h1
  have hc : ∀ j u, c[j]? = some u → w.cell? (ad.add (i.toNat * 1 + j)) = some u := hc0
  obtain ⟨A0, c0, rfl, l0, g0⟩ := hK
  exact ⟨ad, A0, c0, e, by have hq := hc 0 _ rfl; rwa [Nat.mul_one, Nat.add_zero] at hq, l0, g0⟩

/-! #### struct type 30 -/
structure S30 where
  f0 : S26
  f1 : (List S140)
  f2 : Int
  f3 : Int
  f4 : Int
  f5 : (List S143)
def z30 : S30 := ⟨z26, ([] : List S140), (0 : Int), (0 : Int), (0 : Int), ([] : List S143)⟩
def k30 : Kd S30 := Kd.iso (Kd.pair k26 (Kd.pair (Kd.slice 140 k140) (Kd.pair (Kd.int .i64) (Kd.pair (Kd.int .i64) (Kd.pair (Kd.int .i64) (Kd.slice 143 k143)))))) (fun x : S30 => (x.f0, x.f1, x.f2, x.f3, x.f4, x.f5))
theorem k30_open {w : World} {x : S30} {cs : List Value} (h : k30.K w x cs) : ∃ A0 c0 A1 c1 A2 c2 A3 c3 A7 c7, cs = [.slice A0 x.f0.f0.length c0, .slice A1 x.f0.f1.length c1, .slice A2 x.f0.f2.length c2, .slice A3 x.f1.length c3, .int .i64 x.f2, .int .i64 x.f3, .int .i64 x.f4, .slice A7 x.f5.length c7] ∧ x.f0.f0.length ≤ c0 ∧ k99.C w A0 x.f0.f0.length x.f0.f0 ∧ x.f0.f1.length ≤ c1 ∧ k187.C w A1 x.f0.f1.length x.f0.f1 ∧ x.f0.f2.length ≤ c2 ∧ k190.C w A2 x.f0.f2.length x.f0.f2 ∧ x.f1.length ≤ c3 ∧ k140.C w A3 x.f1.length x.f1 ∧ x.f5.length ≤ c7 ∧ k143.C w A7 x.f5.length x.f5 := by
  obtain ⟨_, _, rfl, s0, ⟨_, _, rfl, ⟨A3, c3, rfl, l3, g3⟩, ⟨_, _, rfl, rfl, ⟨_, _, rfl, rfl, ⟨_, _, rfl, rfl, ⟨A7, c7, rfl, l7, g7⟩⟩⟩⟩⟩⟩ := h
  obtain ⟨A0, c0, A1, c1, A2, c2, rfl, l0, g0, l1, g1, l2, g2⟩ := k26_open s0
  exact ⟨A0, c0, A1, c1, A2, c2, A3, c3, A7, c7, rfl, l0, g0, l1, g1, l2, g2, l3, g3, l7, g7⟩
theorem k30_openM {w : World} {base : Nat} {ok : Nat → Prop} {x : S30} {cs : List Value} (h : k30.M w base ok x cs) : ∃ v0 v1 v2 v3 v7, cs = [v0, v1, v2, v3, .int .i64 x.f2, .int .i64 x.f3, .int .i64 x.f4, v7] ∧ k99.R 99 w base ok v0 x.f0.f0 ∧ k187.R 187 w base ok v1 x.f0.f1 ∧ k190.R 190 w base ok v2 x.f0.f2 ∧ k140.R 140 w base ok v3 x.f1 ∧ k143.R 143 w base ok v7 x.f5 := by
  obtain ⟨_, _, rfl, s0, ⟨_, _, rfl, ⟨v3, rfl, g3⟩, ⟨_, _, rfl, rfl, ⟨_, _, rfl, rfl, ⟨_, _, rfl, rfl, ⟨v7, rfl, g7⟩⟩⟩⟩⟩⟩ := h
  obtain ⟨v0, v1, v2, rfl, g0, g1, g2⟩ := k26_openM s0
  exact ⟨v0, v1, v2, v3, v7, rfl, g0, g1, g2, g3, g7⟩
theorem k30_mk (w : World) (x : S30) {A0 : Option Addr} {c0 : Nat} (l0 : x.f0.f0.length ≤ c0) (g0 : k99.C w A0 x.f0.f0.length x.f0.f0) {A1 : Option Addr} {c1 : Nat} (l1 : x.f0.f1.length ≤ c1) (g1 : k187.C w A1 x.f0.f1.length x.f0.f1) {A2 : Option Addr} {c2 : Nat} (l2 : x.f0.f2.length ≤ c2) (g2 : k190.C w A2 x.f0.f2.length x.f0.f2) {A3 : Option Addr} {c3 : Nat} (l3 : x.f1.length ≤ c3) (g3 : k140.C w A3 x.f1.length x.f1) {A7 : Option Addr} {c7 : Nat} (l7 : x.f5.length ≤ c7) (g7 : k143.C w A7 x.f5.length x.f5) : k30.K w x [.slice A0 x.f0.f0.length c0, .slice A1 x.f0.f1.length c1, .slice A2 x.f0.f2.length c2, .slice A3 x.f1.length c3, .int .i64 x.f2, .int .i64 x.f3, .int .i64 x.f4, .slice A7 x.f5.length c7] := ⟨[.slice A0 x.f0.f0.length c0, .slice A1 x.f0.f1.length c1, .slice A2 x.f0.f2.length c2], [.slice A3 x.f1.length c3, .int .i64 x.f2, .int .i64 x.f3, .int .i64 x.f4, .slice A7 x.f5.length c7], rfl, (k26_mk w x.f0 l0 g0 l1 g1 l2 g2), ⟨[.slice A3 x.f1.length c3], [.int .i64 x.f2, .int .i64 x.f3, .int .i64 x.f4, .slice A7 x.f5.length c7], rfl, ⟨A3, c3, rfl, l3, g3⟩, ⟨[.int .i64 x.f2], [.int .i64 x.f3, .int .i64 x.f4, .slice A7 x.f5.length c7], rfl, rfl, ⟨[.int .i64 x.f3], [.int .i64 x.f4, .slice A7 x.f5.length c7], rfl, rfl, ⟨[.int .i64 x.f4], [.slice A7 x.f5.length c7], rfl, rfl, ⟨A7, c7, rfl, l7, g7⟩⟩⟩⟩⟩⟩
theorem k30_mkM (w : World) (base : Nat) (ok : Nat → Prop) (x : S30) {v0 : Value} (g0 : k99.R 99 w base ok v0 x.f0.f0) {v1 : Value} (g1 : k187.R 187 w base ok v1 x.f0.f1) {v2 : Value} (g2 : k190.R 190 w base ok v2 x.f0.f2) {v3 : Value} (g3 : k140.R 140 w base ok v3 x.f1) {v7 : Value} (g7 : k143.R 143 w base ok v7 x.f5) : k30.M w base ok x [v0, v1, v2, v3, .int .i64 x.f2, .int .i64 x.f3, .int .i64 x.f4, v7] := ⟨[v0, v1, v2], [v3, .int .i64 x.f2, .int .i64 x.f3, .int .i64 x.f4, v7], rfl, (k26_mkM w base ok x.f0 g0 g1 g2), ⟨[v3], [.int .i64 x.f2, .int .i64 x.f3, .int .i64 x.f4, v7], rfl, ⟨v3, rfl, g3⟩, ⟨[.int .i64 x.f2], [.int .i64 x.f3, .int .i64 x.f4, v7], rfl, rfl, ⟨[.int .i64 x.f3], [.int .i64 x.f4, v7], rfl, rfl, ⟨[.int .i64 x.f4], [v7], rfl, rfl, ⟨v7, rfl, g7⟩⟩⟩⟩⟩⟩
def rd_T30 (xs : List S30) (i : Int) : S30 := xs.getD i.toNat z30
theorem at_T30 {w : World} {A : Option Addr} {n : Nat} {xs : List S30} (h : Kd.C k30 w A n xs) (i : Int) (h0 : 0 ≤ i) (h1 : i < n) : ∃ ad A0 c0 A1 c1 A2 c2 A3 c3 A7 c7, A = some ad ∧ w.cell? (ad.add (i.toNat * 8)) = some (.slice A0 (rd_T30 xs i).f0.f0.length c0) ∧ w.cell? ⟨(ad.add (i.toNat * 8)).block, (ad.add (i.toNat * 8)).off + 1, none⟩ = some (.slice A1 (rd_T30 xs i).f0.f1.length c1) ∧ w.cell? ⟨(ad.add (i.toNat * 8)).block, (ad.add (i.toNat * 8)).off + 2, none⟩ = some (.slice A2 (rd_T30 xs i).f0.f2.length c2) ∧ w.cell? ⟨(ad.add (i.toNat * 8)).block, (ad.add (i.toNat * 8)).off + 3, none⟩ = some (.slice A3 (rd_T30 xs i).f1.length c3) ∧ w.cell? ⟨(ad.add (i.toNat * 8)).block, (ad.add (i.toNat * 8)).off + 4, none⟩ = some (.int .i64 (rd_T30 xs i).f2) ∧ w.cell? ⟨(ad.add (i.toNat * 8)).block, (ad.add (i.toNat * 8)).off + 5, none⟩ = some (.int .i64 (rd_T30 xs i).f3) ∧ w.cell? ⟨(ad.add (i.toNat * 8)).block, (ad.add (i.toNat * 8)).off + 6, none⟩ = some (.int .i64 (rd_T30 xs i).f4) ∧ w.cell? ⟨(ad.add (i.toNat * 8)).block, (ad.add (i.toNat * 8)).off + 7, none⟩ = some (.slice A7 (rd_T30 xs i).f5.length c7) ∧ (rd_T30 xs i).f0.f0.length ≤ c0 ∧ k99.C w A0 (rd_T30 xs i).f0.f0.length (rd_T30 xs i).f0.f0 ∧ (rd_T30 xs i).f0.f1.length ≤ c1 ∧ k187.C w A1 (rd_T30 xs i).f0.f1.length (rd_T30 xs i).f0.f1 ∧ (rd_T30 xs i).f0.f2.length ≤ c2 ∧ k190.C w A2 (rd_T30 xs i).f0.f2.length (rd_T30 xs i).f0.f2 ∧ (rd_T30 xs i).f1.length ≤ c3 ∧ k140.C w A3 (rd_T30 xs i).f1.length (rd_T30 xs i).f1 ∧ (rd_T30 xs i).f5.length ≤ c7 ∧ k143.C w A7 (rd_T30 xs i).f5.length (rd_T30 xs i).f5 := by
  obtain ⟨ad, c, e, _, hK, hc0⟩ := Kd.C_get h z30 i h0 h1
  have hc : ∀ j u, c[j]? = some u → w.cell? (ad.add (i.toNat * 8 + j)) = some u := hc0
  obtain ⟨A0, c0, A1, c1, A2, c2, A3, c3, A7, c7, rfl, l0, g0, l1, g1, l2, g2, l3, g3, l7, g7⟩ := k30_open hK
  exact ⟨ad, A0, c0, A1, c1, A2, c2, A3, c3, A7, c7, e, hc 0 _ rfl, by rw [← add_field _ _ 1 (by omega)]; exact hc 1 _ rfl, by rw [← add_field _ _ 2 (by omega)]; exact hc 2 _ rfl, by rw [← add_field _ _ 3 (by omega)]; exact hc 3 _ rfl, by rw [← add_field _ _ 4 (by omega)]; exact hc 4 _ rfl, by rw [← add_field _ _ 5 (by omega)]; exact hc 5 _ rfl, by rw [← add_field _ _ 6 (by omega)]; exact hc 6 _ rfl, by rw [← add_field _ _ 7 (by omega)]; exact hc 7 _ rfl, l0, g0, l1, g1, l2, g2, l3, g3, l7, g7⟩

/-! #### struct type 146 -/
structure S146 where
  f0 : Int
  f1 : Int
  f2 : ByteArray
  f3 : Int
def z146 : S146 := ⟨(0 : Int), (0 : Int), (⟨#[]⟩ : ByteArray), (0 : Int)⟩
def k146 : Kd S146 := Kd.iso (Kd.pair (Kd.int .i64) (Kd.pair (Kd.int .i64) (Kd.pair Kd.string (Kd.int .i64)))) (fun x : S146 => (x.f0, x.f1, x.f2, x.f3))
theorem k146_open {w : World} {x : S146} {cs : List Value} (h : k146.K w x cs) : cs = [.int .i64 x.f0, .int .i64 x.f1, .string x.f2, .int .i64 x.f3] := by
  obtain ⟨_, _, rfl, rfl, ⟨_, _, rfl, rfl, ⟨_, _, rfl, rfl, rfl⟩⟩⟩ := h
  exact rfl
theorem k146_openM {w : World} {base : Nat} {ok : Nat → Prop} {x : S146} {cs : List Value} (h : k146.M w base ok x cs) : cs = [.int .i64 x.f0, .int .i64 x.f1, .string x.f2, .int .i64 x.f3] := by
  obtain ⟨_, _, rfl, rfl, ⟨_, _, rfl, rfl, ⟨_, _, rfl, rfl, rfl⟩⟩⟩ := h
  exact rfl
theorem k146_mk (w : World) (x : S146)  : k146.K w x [.int .i64 x.f0, .int .i64 x.f1, .string x.f2, .int .i64 x.f3] := ⟨[.int .i64 x.f0], [.int .i64 x.f1, .string x.f2, .int .i64 x.f3], rfl, rfl, ⟨[.int .i64 x.f1], [.string x.f2, .int .i64 x.f3], rfl, rfl, ⟨[.string x.f2], [.int .i64 x.f3], rfl, rfl, rfl⟩⟩⟩
theorem k146_mkM (w : World) (base : Nat) (ok : Nat → Prop) (x : S146)  : k146.M w base ok x [.int .i64 x.f0, .int .i64 x.f1, .string x.f2, .int .i64 x.f3] := ⟨[.int .i64 x.f0], [.int .i64 x.f1, .string x.f2, .int .i64 x.f3], rfl, rfl, ⟨[.int .i64 x.f1], [.string x.f2, .int .i64 x.f3], rfl, rfl, ⟨[.string x.f2], [.int .i64 x.f3], rfl, rfl, rfl⟩⟩⟩
def rd_T146 (xs : List S146) (i : Int) : S146 := xs.getD i.toNat z146
theorem at_T146 {w : World} {A : Option Addr} {n : Nat} {xs : List S146} (h : Kd.C k146 w A n xs) (i : Int) (h0 : 0 ≤ i) (h1 : i < n) : ∃ ad , A = some ad ∧ w.cell? (ad.add (i.toNat * 4)) = some (.int .i64 (rd_T146 xs i).f0) ∧ w.cell? ⟨(ad.add (i.toNat * 4)).block, (ad.add (i.toNat * 4)).off + 1, none⟩ = some (.int .i64 (rd_T146 xs i).f1) ∧ w.cell? ⟨(ad.add (i.toNat * 4)).block, (ad.add (i.toNat * 4)).off + 2, none⟩ = some (.string (rd_T146 xs i).f2) ∧ w.cell? ⟨(ad.add (i.toNat * 4)).block, (ad.add (i.toNat * 4)).off + 3, none⟩ = some (.int .i64 (rd_T146 xs i).f3) := by
  obtain ⟨ad, c, e, _, hK, hc0⟩ := Kd.C_get h z146 i h0 h1
  have hc : ∀ j u, c[j]? = some u → w.cell? (ad.add (i.toNat * 4 + j)) = some u := hc0
  obtain rfl := k146_open hK
  exact ⟨ad, e, hc 0 _ rfl, by rw [← add_field _ _ 1 (by omega)]; exact hc 1 _ rfl, by rw [← add_field _ _ 2 (by omega)]; exact hc 2 _ rfl, by rw [← add_field _ _ 3 (by omega)]; exact hc 3 _ rfl⟩

/-! #### struct type 220 -/
structure S220 where
  f0 : Int
  f1 : Int
  f2 : (List ByteArray)
  f3 : (List ByteArray)
def z220 : S220 := ⟨(0 : Int), (0 : Int), ([] : List ByteArray), ([] : List ByteArray)⟩
def k220 : Kd S220 := Kd.iso (Kd.pair (Kd.int .i64) (Kd.pair (Kd.int .i64) (Kd.pair (Kd.slice 9 Kd.string) (Kd.slice 9 Kd.string)))) (fun x : S220 => (x.f0, x.f1, x.f2, x.f3))
theorem k220_open {w : World} {x : S220} {cs : List Value} (h : k220.K w x cs) : ∃ A2 c2 A3 c3, cs = [.int .i64 x.f0, .int .i64 x.f1, .slice A2 x.f2.length c2, .slice A3 x.f3.length c3] ∧ x.f2.length ≤ c2 ∧ Kd.string.C w A2 x.f2.length x.f2 ∧ x.f3.length ≤ c3 ∧ Kd.string.C w A3 x.f3.length x.f3 := by
  obtain ⟨_, _, rfl, rfl, ⟨_, _, rfl, rfl, ⟨_, _, rfl, ⟨A2, c2, rfl, l2, g2⟩, ⟨A3, c3, rfl, l3, g3⟩⟩⟩⟩ := h
  exact ⟨A2, c2, A3, c3, rfl, l2, g2, l3, g3⟩
theorem k220_openM {w : World} {base : Nat} {ok : Nat → Prop} {x : S220} {cs : List Value} (h : k220.M w base ok x cs) : ∃ v2 v3, cs = [.int .i64 x.f0, .int .i64 x.f1, v2, v3] ∧ Kd.string.R 9 w base ok v2 x.f2 ∧ Kd.string.R 9 w base ok v3 x.f3 := by
  obtain ⟨_, _, rfl, rfl, ⟨_, _, rfl, rfl, ⟨_, _, rfl, ⟨v2, rfl, g2⟩, ⟨v3, rfl, g3⟩⟩⟩⟩ := h
  exact ⟨v2, v3, rfl, g2, g3⟩
theorem k220_mk (w : World) (x : S220) {A2 : Option Addr} {c2 : Nat} (l2 : x.f2.length ≤ c2) (g2 : Kd.string.C w A2 x.f2.length x.f2) {A3 : Option Addr} {c3 : Nat} (l3 : x.f3.length ≤ c3) (g3 : Kd.string.C w A3 x.f3.length x.f3) : k220.K w x [.int .i64 x.f0, .int .i64 x.f1, .slice A2 x.f2.length c2, .slice A3 x.f3.length c3] := ⟨[.int .i64 x.f0], [.int .i64 x.f1, .slice A2 x.f2.length c2, .slice A3 x.f3.length c3], rfl, rfl, ⟨[.int .i64 x.f1], [.slice A2 x.f2.length c2, .slice A3 x.f3.length c3], rfl, rfl, ⟨[.slice A2 x.f2.length c2], [.slice A3 x.f3.length c3], rfl, ⟨A2, c2, rfl, l2, g2⟩, ⟨A3, c3, rfl, l3, g3⟩⟩⟩⟩
theorem k220_mkM (w : World) (base : Nat) (ok : Nat → Prop) (x : S220) {v2 : Value} (g2 : Kd.string.R 9 w base ok v2 x.f2) {v3 : Value} (g3 : Kd.string.R 9 w base ok v3 x.f3) : k220.M w base ok x [.int .i64 x.f0, .int .i64 x.f1, v2, v3] := ⟨[.int .i64 x.f0], [.int .i64 x.f1, v2, v3], rfl, rfl, ⟨[.int .i64 x.f1], [v2, v3], rfl, rfl, ⟨[v2], [v3], rfl, ⟨v2, rfl, g2⟩, ⟨v3, rfl, g3⟩⟩⟩⟩
def rd_T220 (xs : List S220) (i : Int) : S220 := xs.getD i.toNat z220
theorem at_T220 {w : World} {A : Option Addr} {n : Nat} {xs : List S220} (h : Kd.C k220 w A n xs) (i : Int) (h0 : 0 ≤ i) (h1 : i < n) : ∃ ad A2 c2 A3 c3, A = some ad ∧ w.cell? (ad.add (i.toNat * 4)) = some (.int .i64 (rd_T220 xs i).f0) ∧ w.cell? ⟨(ad.add (i.toNat * 4)).block, (ad.add (i.toNat * 4)).off + 1, none⟩ = some (.int .i64 (rd_T220 xs i).f1) ∧ w.cell? ⟨(ad.add (i.toNat * 4)).block, (ad.add (i.toNat * 4)).off + 2, none⟩ = some (.slice A2 (rd_T220 xs i).f2.length c2) ∧ w.cell? ⟨(ad.add (i.toNat * 4)).block, (ad.add (i.toNat * 4)).off + 3, none⟩ = some (.slice A3 (rd_T220 xs i).f3.length c3) ∧ (rd_T220 xs i).f2.length ≤ c2 ∧ Kd.string.C w A2 (rd_T220 xs i).f2.length (rd_T220 xs i).f2 ∧ (rd_T220 xs i).f3.length ≤ c3 ∧ Kd.string.C w A3 (rd_T220 xs i).f3.length (rd_T220 xs i).f3 := by
  obtain ⟨ad, c, e, _, hK, hc0⟩ := Kd.C_get h z220 i h0 h1
  have hc : ∀ j u, c[j]? = some u → w.cell? (ad.add (i.toNat * 4 + j)) = some u := hc0
  obtain ⟨A2, c2, A3, c3, rfl, l2, g2, l3, g3⟩ := k220_open hK
  exact ⟨ad, A2, c2, A3, c3, e, hc 0 _ rfl, by rw [← add_field _ _ 1 (by omega)]; exact hc 1 _ rfl, by rw [← add_field _ _ 2 (by omega)]; exact hc 2 _ rfl, by rw [← add_field _ _ 3 (by omega)]; exact hc 3 _ rfl, l2, g2, l3, g3⟩

def rd_L22 (xs : List (List S220)) (i : Int) : (List S220) := xs.getD i.toNat ([] : List S220)
theorem at_L22 {w : World} {A : Option Addr} {n : Nat} {xs : List (List S220)} (h : Kd.C (Kd.slice 220 k220) w A n xs) (i : Int) (h0 : 0 ≤ i) (h1 : i < n) : ∃ ad A0 c0, A = some ad ∧ w.cell? (ad.add i.toNat) = some (.slice A0 (rd_L22 xs i).length c0) ∧ (rd_L22 xs i).length ≤ c0 ∧ k220.C w A0 (rd_L22 xs i).length (rd_L22 xs i) := by
  obtain ⟨ad, c, e, _, hK, hc0⟩ := Kd.C_get h ([] : List S220) i h0 h1
  have hc : ∀ j u, c[j]? = some u → w.cell? (ad.add (i.toNat * 1 + j)) = some u := hc0
  obtain ⟨A0, c0, rfl, l0, g0⟩ := hK
  exact ⟨ad, A0, c0, e, by have hq := hc 0 _ rfl; rwa [Nat.mul_one, Nat.add_zero] at hq, l0, g0⟩

/-! #### struct type 150 -/
structure S150 where
  f0 : ByteArray
  f1 : Int
  f2 : Int
  f3 : Int
  f4 : Int
  f5 : Int
  f6 : (List S220)
  f7 : ByteArray
def z150 : S150 := ⟨(⟨#[]⟩ : ByteArray), (0 : Int), (0 : Int), (0 : Int), (0 : Int), (0 : Int), ([] : List S220), (⟨#[]⟩ : ByteArray)⟩
def k150 : Kd S150 := Kd.iso (Kd.pair Kd.string (Kd.pair (Kd.int .i64) (Kd.pair (Kd.int .i64) (Kd.pair (Kd.int .i64) (Kd.pair (Kd.int .i64) (Kd.pair (Kd.int .i64) (Kd.pair (Kd.slice 220 k220) Kd.string))))))) (fun x : S150 => (x.f0, x.f1, x.f2, x.f3, x.f4, x.f5, x.f6, x.f7))
theorem k150_open {w : World} {x : S150} {cs : List Value} (h : k150.K w x cs) : ∃ A6 c6, cs = [.string x.f0, .int .i64 x.f1, .int .i64 x.f2, .int .i64 x.f3, .int .i64 x.f4, .int .i64 x.f5, .slice A6 x.f6.length c6, .string x.f7] ∧ x.f6.length ≤ c6 ∧ k220.C w A6 x.f6.length x.f6 := by
  obtain ⟨_, _, rfl, rfl, ⟨_, _, rfl, rfl, ⟨_, _, rfl, rfl, ⟨_, _, rfl, rfl, ⟨_, _, rfl, rfl, ⟨_, _, rfl, rfl, ⟨_, _, rfl, ⟨A6, c6, rfl, l6, g6⟩, rfl⟩⟩⟩⟩⟩⟩⟩ := h
  exact ⟨A6, c6, rfl, l6, g6⟩
theorem k150_openM {w : World} {base : Nat} {ok : Nat → Prop} {x : S150} {cs : List Value} (h : k150.M w base ok x cs) : ∃ v6, cs = [.string x.f0, .int .i64 x.f1, .int .i64 x.f2, .int .i64 x.f3, .int .i64 x.f4, .int .i64 x.f5, v6, .string x.f7] ∧ k220.R 220 w base ok v6 x.f6 := by
  obtain ⟨_, _, rfl, rfl, ⟨_, _, rfl, rfl, ⟨_, _, rfl, rfl, ⟨_, _, rfl, rfl, ⟨_, _, rfl, rfl, ⟨_, _, rfl, rfl, ⟨_, _, rfl, ⟨v6, rfl, g6⟩, rfl⟩⟩⟩⟩⟩⟩⟩ := h
  exact ⟨v6, rfl, g6⟩
theorem k150_mk (w : World) (x : S150) {A6 : Option Addr} {c6 : Nat} (l6 : x.f6.length ≤ c6) (g6 : k220.C w A6 x.f6.length x.f6) : k150.K w x [.string x.f0, .int .i64 x.f1, .int .i64 x.f2, .int .i64 x.f3, .int .i64 x.f4, .int .i64 x.f5, .slice A6 x.f6.length c6, .string x.f7] := ⟨[.string x.f0], [.int .i64 x.f1, .int .i64 x.f2, .int .i64 x.f3, .int .i64 x.f4, .int .i64 x.f5, .slice A6 x.f6.length c6, .string x.f7], rfl, rfl, ⟨[.int .i64 x.f1], [.int .i64 x.f2, .int .i64 x.f3, .int .i64 x.f4, .int .i64 x.f5, .slice A6 x.f6.length c6, .string x.f7], rfl, rfl, ⟨[.int .i64 x.f2], [.int .i64 x.f3, .int .i64 x.f4, .int .i64 x.f5, .slice A6 x.f6.length c6, .string x.f7], rfl, rfl, ⟨[.int .i64 x.f3], [.int .i64 x.f4, .int .i64 x.f5, .slice A6 x.f6.length c6, .string x.f7], rfl, rfl, ⟨[.int .i64 x.f4], [.int .i64 x.f5, .slice A6 x.f6.length c6, .string x.f7], rfl, rfl, ⟨[.int .i64 x.f5], [.slice A6 x.f6.length c6, .string x.f7], rfl, rfl, ⟨[.slice A6 x.f6.length c6], [.string x.f7], rfl, ⟨A6, c6, rfl, l6, g6⟩, rfl⟩⟩⟩⟩⟩⟩⟩
theorem k150_mkM (w : World) (base : Nat) (ok : Nat → Prop) (x : S150) {v6 : Value} (g6 : k220.R 220 w base ok v6 x.f6) : k150.M w base ok x [.string x.f0, .int .i64 x.f1, .int .i64 x.f2, .int .i64 x.f3, .int .i64 x.f4, .int .i64 x.f5, v6, .string x.f7] := ⟨[.string x.f0], [.int .i64 x.f1, .int .i64 x.f2, .int .i64 x.f3, .int .i64 x.f4, .int .i64 x.f5, v6, .string x.f7], rfl, rfl, ⟨[.int .i64 x.f1], [.int .i64 x.f2, .int .i64 x.f3, .int .i64 x.f4, .int .i64 x.f5, v6, .string x.f7], rfl, rfl, ⟨[.int .i64 x.f2], [.int .i64 x.f3, .int .i64 x.f4, .int .i64 x.f5, v6, .string x.f7], rfl, rfl, ⟨[.int .i64 x.f3], [.int .i64 x.f4, .int .i64 x.f5, v6, .string x.f7], rfl, rfl, ⟨[.int .i64 x.f4], [.int .i64 x.f5, v6, .string x.f7], rfl, rfl, ⟨[.int .i64 x.f5], [v6, .string x.f7], rfl, rfl, ⟨[v6], [.string x.f7], rfl, ⟨v6, rfl, g6⟩, rfl⟩⟩⟩⟩⟩⟩⟩
def rd_T150 (xs : List S150) (i : Int) : S150 := xs.getD i.toNat z150
theorem at_T150 {w : World} {A : Option Addr} {n : Nat} {xs : List S150} (h : Kd.C k150 w A n xs) (i : Int) (h0 : 0 ≤ i) (h1 : i < n) : ∃ ad A6 c6, A = some ad ∧ w.cell? (ad.add (i.toNat * 8)) = some (.string (rd_T150 xs i).f0) ∧ w.cell? ⟨(ad.add (i.toNat * 8)).block, (ad.add (i.toNat * 8)).off + 1, none⟩ = some (.int .i64 (rd_T150 xs i).f1) ∧ w.cell? ⟨(ad.add (i.toNat * 8)).block, (ad.add (i.toNat * 8)).off + 2, none⟩ = some (.int .i64 (rd_T150 xs i).f2) ∧ w.cell? ⟨(ad.add (i.toNat * 8)).block, (ad.add (i.toNat * 8)).off + 3, none⟩ = some (.int .i64 (rd_T150 xs i).f3) ∧ w.cell? ⟨(ad.add (i.toNat * 8)).block, (ad.add (i.toNat * 8)).off + 4, none⟩ = some (.int .i64 (rd_T150 xs i).f4) ∧ w.cell? ⟨(ad.add (i.toNat * 8)).block, (ad.add (i.toNat * 8)).off + 5, none⟩ = some (.int .i64 (rd_T150 xs i).f5) ∧ w.cell? ⟨(ad.add (i.toNat * 8)).block, (ad.add (i.toNat * 8)).off + 6, none⟩ = some (.slice A6 (rd_T150 xs i).f6.length c6) ∧ w.cell? ⟨(ad.add (i.toNat * 8)).block, (ad.add (i.toNat * 8)).off + 7, none⟩ = some (.string (rd_T150 xs i).f7) ∧ (rd_T150 xs i).f6.length ≤ c6 ∧ k220.C w A6 (rd_T150 xs i).f6.length (rd_T150 xs i).f6 := by
  obtain ⟨ad, c, e, _, hK, hc0⟩ := Kd.C_get h z150 i h0 h1
  have hc : ∀ j u, c[j]? = some u → w.cell? (ad.add (i.toNat * 8 + j)) = some u := hc0
  obtain ⟨A6, c6, rfl, l6, g6⟩ := k150_open hK
  exact ⟨ad, A6, c6, e, hc 0 _ rfl, by rw [← add_field _ _ 1 (by omega)]; exact hc 1 _ rfl, by rw [← add_field _ _ 2 (by omega)]; exact hc 2 _ rfl, by rw [← add_field _ _ 3 (by omega)]; exact hc 3 _ rfl, by rw [← add_field _ _ 4 (by omega)]; exact hc 4 _ rfl, by rw [← add_field _ _ 5 (by omega)]; exact hc 5 _ rfl, by rw [← add_field _ _ 6 (by omega)]; exact hc 6 _ rfl, by rw [← add_field _ _ 7 (by omega)]; exact hc 7 _ rfl, l6, g6⟩

/-! #### struct type 152 -/
structure S152 where
  f0 : Int
  f1 : S150
def z152 : S152 := ⟨(0 : Int), z150⟩
def k152 : Kd S152 := Kd.iso (Kd.pair (Kd.int .i64) k150) (fun x : S152 => (x.f0, x.f1))
theorem k152_open {w : World} {x : S152} {cs : List Value} (h : k152.K w x cs) : ∃ A7 c7, cs = [.int .i64 x.f0, .string x.f1.f0, .int .i64 x.f1.f1, .int .i64 x.f1.f2, .int .i64 x.f1.f3, .int .i64 x.f1.f4, .int .i64 x.f1.f5, .slice A7 x.f1.f6.length c7, .string x.f1.f7] ∧ x.f1.f6.length ≤ c7 ∧ k220.C w A7 x.f1.f6.length x.f1.f6 := by
  obtain ⟨_, _, rfl, rfl, s1⟩ := h
  obtain ⟨A7, c7, rfl, l7, g7⟩ := k150_open s1
  exact ⟨A7, c7, rfl, l7, g7⟩
theorem k152_openM {w : World} {base : Nat} {ok : Nat → Prop} {x : S152} {cs : List Value} (h : k152.M w base ok x cs) : ∃ v7, cs = [.int .i64 x.f0, .string x.f1.f0, .int .i64 x.f1.f1, .int .i64 x.f1.f2, .int .i64 x.f1.f3, .int .i64 x.f1.f4, .int .i64 x.f1.f5, v7, .string x.f1.f7] ∧ k220.R 220 w base ok v7 x.f1.f6 := by
  obtain ⟨_, _, rfl, rfl, s1⟩ := h
  obtain ⟨v7, rfl, g7⟩ := k150_openM s1
  exact ⟨v7, rfl, g7⟩
theorem k152_mk (w : World) (x : S152) {A7 : Option Addr} {c7 : Nat} (l7 : x.f1.f6.length ≤ c7) (g7 : k220.C w A7 x.f1.f6.length x.f1.f6) : k152.K w x [.int .i64 x.f0, .string x.f1.f0, .int .i64 x.f1.f1, .int .i64 x.f1.f2, .int .i64 x.f1.f3, .int .i64 x.f1.f4, .int .i64 x.f1.f5, .slice A7 x.f1.f6.length c7, .string x.f1.f7] := ⟨[.int .i64 x.f0], [.string x.f1.f0, .int .i64 x.f1.f1, .int .i64 x.f1.f2, .int .i64 x.f1.f3, .int .i64 x.f1.f4, .int .i64 x.f1.f5, .slice A7 x.f1.f6.length c7, .string x.f1.f7], rfl, rfl, (k150_mk w x.f1 l7 g7)⟩
theorem k152_mkM (w : World) (base : Nat) (ok : Nat → Prop) (x : S152) {v7 : Value} (g7 : k220.R 220 w base ok v7 x.f1.f6) : k152.M w base ok x [.int .i64 x.f0, .string x.f1.f0, .int .i64 x.f1.f1, .int .i64 x.f1.f2, .int .i64 x.f1.f3, .int .i64 x.f1.f4, .int .i64 x.f1.f5, v7, .string x.f1.f7] := ⟨[.int .i64 x.f0], [.string x.f1.f0, .int .i64 x.f1.f1, .int .i64 x.f1.f2, .int .i64 x.f1.f3, .int .i64 x.f1.f4, .int .i64 x.f1.f5, v7, .string x.f1.f7], rfl, rfl, (k150_mkM w base ok x.f1 g7)⟩
def rd_T152 (xs : List S152) (i : Int) : S152 := xs.getD i.toNat z152
theorem at_T152 {w : World} {A : Option Addr} {n : Nat} {xs : List S152} (h : Kd.C k152 w A n xs) (i : Int) (h0 : 0 ≤ i) (h1 : i < n) : ∃ ad A7 c7, A = some ad ∧ w.cell? (ad.add (i.toNat * 9)) = some (.int .i64 (rd_T152 xs i).f0) ∧ w.cell? ⟨(ad.add (i.toNat * 9)).block, (ad.add (i.toNat * 9)).off + 1, none⟩ = some (.string (rd_T152 xs i).f1.f0) ∧ w.cell? ⟨(ad.add (i.toNat * 9)).block, (ad.add (i.toNat * 9)).off + 2, none⟩ = some (.int .i64 (rd_T152 xs i).f1.f1) ∧ w.cell? ⟨(ad.add (i.toNat * 9)).block, (ad.add (i.toNat * 9)).off + 3, none⟩ = some (.int .i64 (rd_T152 xs i).f1.f2) ∧ w.cell? ⟨(ad.add (i.toNat * 9)).block, (ad.add (i.toNat * 9)).off + 4, none⟩ = some (.int .i64 (rd_T152 xs i).f1.f3) ∧ w.cell? ⟨(ad.add (i.toNat * 9)).block, (ad.add (i.toNat * 9)).off + 5, none⟩ = some (.int .i64 (rd_T152 xs i).f1.f4) ∧ w.cell? ⟨(ad.add (i.toNat * 9)).block, (ad.add (i.toNat * 9)).off + 6, none⟩ = some (.int .i64 (rd_T152 xs i).f1.f5) ∧ w.cell? ⟨(ad.add (i.toNat * 9)).block, (ad.add (i.toNat * 9)).off + 7, none⟩ = some (.slice A7 (rd_T152 xs i).f1.f6.length c7) ∧ w.cell? ⟨(ad.add (i.toNat * 9)).block, (ad.add (i.toNat * 9)).off + 8, none⟩ = some (.string (rd_T152 xs i).f1.f7) ∧ (rd_T152 xs i).f1.f6.length ≤ c7 ∧ k220.C w A7 (rd_T152 xs i).f1.f6.length (rd_T152 xs i).f1.f6 := by
  obtain ⟨ad, c, e, _, hK, hc0⟩ := Kd.C_get h z152 i h0 h1
  have hc : ∀ j u, c[j]? = some u → w.cell? (ad.add (i.toNat * 9 + j)) = some u := hc0
  obtain ⟨A7, c7, rfl, l7, g7⟩ := k152_open hK
  exact ⟨ad, A7, c7, e, hc 0 _ rfl, by rw [← add_field _ _ 1 (by omega)]; exact hc 1 _ rfl, by rw [← add_field _ _ 2 (by omega)]; exact hc 2 _ rfl, by rw [← add_field _ _ 3 (by omega)]; exact hc 3 _ rfl, by rw [← add_field _ _ 4 (by omega)]; exact hc 4 _ rfl, by rw [← add_field _ _ 5 (by omega)]; exact hc 5 _ rfl, by rw [← add_field _ _ 6 (by omega)]; exact hc 6 _ rfl, by rw [← add_field _ _ 7 (by omega)]; exact hc 7 _ rfl, by rw [← add_field _ _ 8 (by omega)]; exact hc 8 _ rfl, l7, g7⟩

def rd_L25 (xs : List (List S146)) (i : Int) : (List S146) := xs.getD i.toNat ([] : List S146)
theorem at_L25 {w : World} {A : Option Addr} {n : Nat} {xs : List (List S146)} (h : Kd.C (Kd.slice 146 k146) w A n xs) (i : Int) (h0 : 0 ≤ i) (h1 : i < n) : ∃ ad A0 c0, A = some ad ∧ w.cell? (ad.add i.toNat) = some (.slice A0 (rd_L25 xs i).length c0) ∧ (rd_L25 xs i).length ≤ c0 ∧ k146.C w A0 (rd_L25 xs i).length (rd_L25 xs i) := by
  obtain ⟨ad, c, e, _, hK, hc0⟩ := Kd.C_get h ([] : List S146) i h0 h1
  have hc : ∀ j u, c[j]? = some u → w.cell? (ad.add (i.toNat * 1 + j)) = some u := hc0
  obtain ⟨A0, c0, rfl, l0, g0⟩ := hK
  exact ⟨ad, A0, c0, e, by have hq := hc 0 _ rfl; rwa [Nat.mul_one, Nat.add_zero] at hq, l0, g0⟩

def rd_L26 (xs : List (List S152)) (i : Int) : (List S152) := xs.getD i.toNat ([] : List S152)
theorem at_L26 {w : World} {A : Option Addr} {n : Nat} {xs : List (List S152)} (h : Kd.C (Kd.slice 152 k152) w A n xs) (i : Int) (h0 : 0 ≤ i) (h1 : i < n) : ∃ ad A0 c0, A = some ad ∧ w.cell? (ad.add i.toNat) = some (.slice A0 (rd_L26 xs i).length c0) ∧ (rd_L26 xs i).length ≤ c0 ∧ k152.C w A0 (rd_L26 xs i).length (rd_L26 xs i) := by
  obtain ⟨ad, c, e, _, hK, hc0⟩ := Kd.C_get h ([] : List S152) i h0 h1
  have hc : ∀ j u, c[j]? = some u → w.cell? (ad.add (i.toNat * 1 + j)) = some u := hc0
  obtain ⟨A0, c0, rfl, l0, g0⟩ := hK
  exact ⟨ad, A0, c0, e, by have hq := hc 0 _ rfl; rwa [Nat.mul_one, Nat.add_zero] at hq, l0, g0⟩

/-! #### struct type 35 -/
structure S35 where
  f0 : ByteArray
  f1 : Int
  f2 : (List S146)
  f3 : (List S152)
  f4 : (List Int)
def z35 : S35 := ⟨(⟨#[]⟩ : ByteArray), (0 : Int), ([] : List S146), ([] : List S152), ([] : List Int)⟩
def k35 : Kd S35 := Kd.iso (Kd.pair Kd.string (Kd.pair (Kd.int .i64) (Kd.pair (Kd.slice 146 k146) (Kd.pair (Kd.slice 152 k152) (Kd.slice 3 (Kd.int .i64)))))) (fun x : S35 => (x.f0, x.f1, x.f2, x.f3, x.f4))
theorem k35_open {w : World} {x : S35} {cs : List Value} (h : k35.K w x cs) : ∃ A2 c2 A3 c3 A4 c4, cs = [.string x.f0, .int .i64 x.f1, .slice A2 x.f2.length c2, .slice A3 x.f3.length c3, .slice A4 x.f4.length c4] ∧ x.f2.length ≤ c2 ∧ k146.C w A2 x.f2.length x.f2 ∧ x.f3.length ≤ c3 ∧ k152.C w A3 x.f3.length x.f3 ∧ x.f4.length ≤ c4 ∧ (Kd.int .i64).C w A4 x.f4.length x.f4 := by
  obtain ⟨_, _, rfl, rfl, ⟨_, _, rfl, rfl, ⟨_, _, rfl, ⟨A2, c2, rfl, l2, g2⟩, ⟨_, _, rfl, ⟨A3, c3, rfl, l3, g3⟩, ⟨A4, c4, rfl, l4, g4⟩⟩⟩⟩⟩ := h
  exact ⟨A2, c2, A3, c3, A4, c4, rfl, l2, g2, l3, g3, l4, g4⟩
theorem k35_openM {w : World} {base : Nat} {ok : Nat → Prop} {x : S35} {cs : List Value} (h : k35.M w base ok x cs) : ∃ v2 v3 v4, cs = [.string x.f0, .int .i64 x.f1, v2, v3, v4] ∧ k146.R 146 w base ok v2 x.f2 ∧ k152.R 152 w base ok v3 x.f3 ∧ (Kd.int .i64).R 3 w base ok v4 x.f4 := by
  obtain ⟨_, _, rfl, rfl, ⟨_, _, rfl, rfl, ⟨_, _, rfl, ⟨v2, rfl, g2⟩, ⟨_, _, rfl, ⟨v3, rfl, g3⟩, ⟨v4, rfl, g4⟩⟩⟩⟩⟩ := h
  exact ⟨v2, v3, v4, rfl, g2, g3, g4⟩
theorem k35_mk (w : World) (x : S35) {A2 : Option Addr} {c2 : Nat} (l2 : x.f2.length ≤ c2) (g2 : k146.C w A2 x.f2.length x.f2) {A3 : Option Addr} {c3 : Nat} (l3 : x.f3.length ≤ c3) (g3 : k152.C w A3 x.f3.length x.f3) {A4 : Option Addr} {c4 : Nat} (l4 : x.f4.length ≤ c4) (g4 : (Kd.int .i64).C w A4 x.f4.length x.f4) : k35.K w x [.string x.f0, .int .i64 x.f1, .slice A2 x.f2.length c2, .slice A3 x.f3.length c3, .slice A4 x.f4.length c4] := ⟨[.string x.f0], [.int .i64 x.f1, .slice A2 x.f2.length c2, .slice A3 x.f3.length c3, .slice A4 x.f4.length c4], rfl, rfl, ⟨[.int .i64 x.f1], [.slice A2 x.f2.length c2, .slice A3 x.f3.length c3, .slice A4 x.f4.length c4], rfl, rfl, ⟨[.slice A2 x.f2.length c2], [.slice A3 x.f3.length c3, .slice A4 x.f4.length c4], rfl, ⟨A2, c2, rfl, l2, g2⟩, ⟨[.slice A3 x.f3.length c3], [.slice A4 x.f4.length c4], rfl, ⟨A3, c3, rfl, l3, g3⟩, ⟨A4, c4, rfl, l4, g4⟩⟩⟩⟩⟩
theorem k35_mkM (w : World) (base : Nat) (ok : Nat → Prop) (x : S35) {v2 : Value} (g2 : k146.R 146 w base ok v2 x.f2) {v3 : Value} (g3 : k152.R 152 w base ok v3 x.f3) {v4 : Value} (g4 : (Kd.int .i64).R 3 w base ok v4 x.f4) : k35.M w base ok x [.string x.f0, .int .i64 x.f1, v2, v3, v4] := ⟨[.string x.f0], [.int .i64 x.f1, v2, v3, v4], rfl, rfl, ⟨[.int .i64 x.f1], [v2, v3, v4], rfl, rfl, ⟨[v2], [v3, v4], rfl, ⟨v2, rfl, g2⟩, ⟨[v3], [v4], rfl, ⟨v3, rfl, g3⟩, ⟨v4, rfl, g4⟩⟩⟩⟩⟩
def rd_T35 (xs : List S35) (i : Int) : S35 := xs.getD i.toNat z35
theorem at_T35 {w : World} {A : Option Addr} {n : Nat} {xs : List S35} (h : Kd.C k35 w A n xs) (i : Int) (h0 : 0 ≤ i) (h1 : i < n) : ∃ ad A2 c2 A3 c3 A4 c4, A = some ad ∧ w.cell? (ad.add (i.toNat * 5)) = some (.string (rd_T35 xs i).f0) ∧ w.cell? ⟨(ad.add (i.toNat * 5)).block, (ad.add (i.toNat * 5)).off + 1, none⟩ = some (.int .i64 (rd_T35 xs i).f1) ∧ w.cell? ⟨(ad.add (i.toNat * 5)).block, (ad.add (i.toNat * 5)).off + 2, none⟩ = some (.slice A2 (rd_T35 xs i).f2.length c2) ∧ w.cell? ⟨(ad.add (i.toNat * 5)).block, (ad.add (i.toNat * 5)).off + 3, none⟩ = some (.slice A3 (rd_T35 xs i).f3.length c3) ∧ w.cell? ⟨(ad.add (i.toNat * 5)).block, (ad.add (i.toNat * 5)).off + 4, none⟩ = some (.slice A4 (rd_T35 xs i).f4.length c4) ∧ (rd_T35 xs i).f2.length ≤ c2 ∧ k146.C w A2 (rd_T35 xs i).f2.length (rd_T35 xs i).f2 ∧ (rd_T35 xs i).f3.length ≤ c3 ∧ k152.C w A3 (rd_T35 xs i).f3.length (rd_T35 xs i).f3 ∧ (rd_T35 xs i).f4.length ≤ c4 ∧ (Kd.int .i64).C w A4 (rd_T35 xs i).f4.length (rd_T35 xs i).f4 := by
  obtain ⟨ad, c, e, _, hK, hc0⟩ := Kd.C_get h z35 i h0 h1
  have hc : ∀ j u, c[j]? = some u → w.cell? (ad.add (i.toNat * 5 + j)) = some u := hc0
  obtain ⟨A2, c2, A3, c3, A4, c4, rfl, l2, g2, l3, g3, l4, g4⟩ := k35_open hK
  exact ⟨ad, A2, c2, A3, c3, A4, c4, e, hc 0 _ rfl, by rw [← add_field _ _ 1 (by omega)]; exact hc 1 _ rfl, by rw [← add_field _ _ 2 (by omega)]; exact hc 2 _ rfl, by rw [← add_field _ _ 3 (by omega)]; exact hc 3 _ rfl, by rw [← add_field _ _ 4 (by omega)]; exact hc 4 _ rfl, l2, g2, l3, g3, l4, g4⟩

/-! #### struct type 102 -/
structure S102 where
  f0 : Bool
  f1 : ByteArray
def z102 : S102 := ⟨false, (⟨#[]⟩ : ByteArray)⟩
def k102 : Kd S102 := Kd.iso (Kd.pair Kd.bool Kd.string) (fun x : S102 => (x.f0, x.f1))
theorem k102_open {w : World} {x : S102} {cs : List Value} (h : k102.K w x cs) : cs = [.bool x.f0, .string x.f1] := by
  obtain ⟨_, _, rfl, rfl, rfl⟩ := h
  exact rfl
theorem k102_openM {w : World} {base : Nat} {ok : Nat → Prop} {x : S102} {cs : List Value} (h : k102.M w base ok x cs) : cs = [.bool x.f0, .string x.f1] := by
  obtain ⟨_, _, rfl, rfl, rfl⟩ := h
  exact rfl
theorem k102_mk (w : World) (x : S102)  : k102.K w x [.bool x.f0, .string x.f1] := ⟨[.bool x.f0], [.string x.f1], rfl, rfl, rfl⟩
theorem k102_mkM (w : World) (base : Nat) (ok : Nat → Prop) (x : S102)  : k102.M w base ok x [.bool x.f0, .string x.f1] := ⟨[.bool x.f0], [.string x.f1], rfl, rfl, rfl⟩
def rd_T102 (xs : List S102) (i : Int) : S102 := xs.getD i.toNat z102
theorem at_T102 {w : World} {A : Option Addr} {n : Nat} {xs : List S102} (h : Kd.C k102 w A n xs) (i : Int) (h0 : 0 ≤ i) (h1 : i < n) : ∃ ad , A = some ad ∧ w.cell? (ad.add (i.toNat * 2)) = some (.bool (rd_T102 xs i).f0) ∧ w.cell? ⟨(ad.add (i.toNat * 2)).block, (ad.add (i.toNat * 2)).off + 1, none⟩ = some (.string (rd_T102 xs i).f1) := by
  obtain ⟨ad, c, e, _, hK, hc0⟩ := Kd.C_get h z102 i h0 h1
  have hc : ∀ j u, c[j]? = some u → w.cell? (ad.add (i.toNat * 2 + j)) = some u := hc0
  obtain rfl := k102_open hK
  exact ⟨ad, e, hc 0 _ rfl, by rw [← add_field _ _ 1 (by omega)]; exact hc 1 _ rfl⟩

/-! #### struct type 105 -/
structure S105 where
  f0 : Int
  f1 : ByteArray
def z105 : S105 := ⟨(0 : Int), (⟨#[]⟩ : ByteArray)⟩
def k105 : Kd S105 := Kd.iso (Kd.pair (Kd.int .i64) Kd.string) (fun x : S105 => (x.f0, x.f1))
theorem k105_open {w : World} {x : S105} {cs : List Value} (h : k105.K w x cs) : cs = [.int .i64 x.f0, .string x.f1] := by
  obtain ⟨_, _, rfl, rfl, rfl⟩ := h
  exact rfl
theorem k105_openM {w : World} {base : Nat} {ok : Nat → Prop} {x : S105} {cs : List Value} (h : k105.M w base ok x cs) : cs = [.int .i64 x.f0, .string x.f1] := by
  obtain ⟨_, _, rfl, rfl, rfl⟩ := h
  exact rfl
theorem k105_mk (w : World) (x : S105)  : k105.K w x [.int .i64 x.f0, .string x.f1] := ⟨[.int .i64 x.f0], [.string x.f1], rfl, rfl, rfl⟩
theorem k105_mkM (w : World) (base : Nat) (ok : Nat → Prop) (x : S105)  : k105.M w base ok x [.int .i64 x.f0, .string x.f1] := ⟨[.int .i64 x.f0], [.string x.f1], rfl, rfl, rfl⟩
def rd_T105 (xs : List S105) (i : Int) : S105 := xs.getD i.toNat z105
theorem at_T105 {w : World} {A : Option Addr} {n : Nat} {xs : List S105} (h : Kd.C k105 w A n xs) (i : Int) (h0 : 0 ≤ i) (h1 : i < n) : ∃ ad , A = some ad ∧ w.cell? (ad.add (i.toNat * 2)) = some (.int .i64 (rd_T105 xs i).f0) ∧ w.cell? ⟨(ad.add (i.toNat * 2)).block, (ad.add (i.toNat * 2)).off + 1, none⟩ = some (.string (rd_T105 xs i).f1) := by
  obtain ⟨ad, c, e, _, hK, hc0⟩ := Kd.C_get h z105 i h0 h1
  have hc : ∀ j u, c[j]? = some u → w.cell? (ad.add (i.toNat * 2 + j)) = some u := hc0
  obtain rfl := k105_open hK
  exact ⟨ad, e, hc 0 _ rfl, by rw [← add_field _ _ 1 (by omega)]; exact hc 1 _ rfl⟩

def rd_L30 (xs : List (List S102)) (i : Int) : (List S102) := xs.getD i.toNat ([] : List S102)
theorem at_L30 {w : World} {A : Option Addr} {n : Nat} {xs : List (List S102)} (h : Kd.C (Kd.slice 102 k102) w A n xs) (i : Int) (h0 : 0 ≤ i) (h1 : i < n) : ∃ ad A0 c0, A = some ad ∧ w.cell? (ad.add i.toNat) = some (.slice A0 (rd_L30 xs i).length c0) ∧ (rd_L30 xs i).length ≤ c0 ∧ k102.C w A0 (rd_L30 xs i).length (rd_L30 xs i) := by
  obtain ⟨ad, c, e, _, hK, hc0⟩ := Kd.C_get h ([] : List S102) i h0 h1
  have hc : ∀ j u, c[j]? = some u → w.cell? (ad.add (i.toNat * 1 + j)) = some u := hc0
  obtain ⟨A0, c0, rfl, l0, g0⟩ := hK
  exact ⟨ad, A0, c0, e, by have hq := hc 0 _ rfl; rwa [Nat.mul_one, Nat.add_zero] at hq, l0, g0⟩

def rd_L31 (xs : List (List S105)) (i : Int) : (List S105) := xs.getD i.toNat ([] : List S105)
theorem at_L31 {w : World} {A : Option Addr} {n : Nat} {xs : List (List S105)} (h : Kd.C (Kd.slice 105 k105) w A n xs) (i : Int) (h0 : 0 ≤ i) (h1 : i < n) : ∃ ad A0 c0, A = some ad ∧ w.cell? (ad.add i.toNat) = some (.slice A0 (rd_L31 xs i).length c0) ∧ (rd_L31 xs i).length ≤ c0 ∧ k105.C w A0 (rd_L31 xs i).length (rd_L31 xs i) := by
  obtain ⟨ad, c, e, _, hK, hc0⟩ := Kd.C_get h ([] : List S105) i h0 h1
  have hc : ∀ j u, c[j]? = some u → w.cell? (ad.add (i.toNat * 1 + j)) = some u := hc0
  obtain ⟨A0, c0, rfl, l0, g0⟩ := hK
  exact ⟨ad, A0, c0, e, by have hq := hc 0 _ rfl; rwa [Nat.mul_one, Nat.add_zero] at hq, l0, g0⟩

/-! #### struct type 40 -/
structure S40 where
  f0 : S30
  f1 : S35
  f2 : (List S99)
  f3 : (List S102)
  f4 : (List Int)
  f5 : (List S105)
  f6 : (List ByteArray)
  f7 : (List ByteArray)
def z40 : S40 := ⟨z30, z35, ([] : List S99), ([] : List S102), ([] : List Int), ([] : List S105), ([] : List ByteArray), ([] : List ByteArray)⟩
def k40 : Kd S40 := Kd.iso (Kd.pair k30 (Kd.pair k35 (Kd.pair (Kd.slice 99 k99) (Kd.pair (Kd.slice 102 k102) (Kd.pair (Kd.slice 3 (Kd.int .i64)) (Kd.pair (Kd.slice 105 k105) (Kd.pair (Kd.slice 9 Kd.string) (Kd.slice 9 Kd.string)))))))) (fun x : S40 => (x.f0, x.f1, x.f2, x.f3, x.f4, x.f5, x.f6, x.f7))
theorem k40_open {w : World} {x : S40} {cs : List Value} (h : k40.K w x cs) : ∃ A0 c0 A1 c1 A2 c2 A3 c3 A7 c7 A10 c10 A11 c11 A12 c12 A13 c13 A14 c14 A15 c15 A16 c16 A17 c17 A18 c18, cs = [.slice A0 x.f0.f0.f0.length c0, .slice A1 x.f0.f0.f1.length c1, .slice A2 x.f0.f0.f2.length c2, .slice A3 x.f0.f1.length c3, .int .i64 x.f0.f2, .int .i64 x.f0.f3, .int .i64 x.f0.f4, .slice A7 x.f0.f5.length c7, .string x.f1.f0, .int .i64 x.f1.f1, .slice A10 x.f1.f2.length c10, .slice A11 x.f1.f3.length c11, .slice A12 x.f1.f4.length c12, .slice A13 x.f2.length c13, .slice A14 x.f3.length c14, .slice A15 x.f4.length c15, .slice A16 x.f5.length c16, .slice A17 x.f6.length c17, .slice A18 x.f7.length c18] ∧ x.f0.f0.f0.length ≤ c0 ∧ k99.C w A0 x.f0.f0.f0.length x.f0.f0.f0 ∧ x.f0.f0.f1.length ≤ c1 ∧ k187.C w A1 x.f0.f0.f1.length x.f0.f0.f1 ∧ x.f0.f0.f2.length ≤ c2 ∧ k190.C w A2 x.f0.f0.f2.length x.f0.f0.f2 ∧ x.f0.f1.length ≤ c3 ∧ k140.C w A3 x.f0.f1.length x.f0.f1 ∧ x.f0.f5.length ≤ c7 ∧ k143.C w A7 x.f0.f5.length x.f0.f5 ∧ x.f1.f2.length ≤ c10 ∧ k146.C w A10 x.f1.f2.length x.f1.f2 ∧ x.f1.f3.length ≤ c11 ∧ k152.C w A11 x.f1.f3.length x.f1.f3 ∧ x.f1.f4.length ≤ c12 ∧ (Kd.int .i64).C w A12 x.f1.f4.length x.f1.f4 ∧ x.f2.length ≤ c13 ∧ k99.C w A13 x.f2.length x.f2 ∧ x.f3.length ≤ c14 ∧ k102.C w A14 x.f3.length x.f3 ∧ x.f4.length ≤ c15 ∧ (Kd.int .i64).C w A15 x.f4.length x.f4 ∧ x.f5.length ≤ c16 ∧ k105.C w A16 x.f5.length x.f5 ∧ x.f6.length ≤ c17 ∧ Kd.string.C w A17 x.f6.length x.f6 ∧ x.f7.length ≤ c18 ∧ Kd.string.C w A18 x.f7.length x.f7 := by
  obtain ⟨_, _, rfl, s0, ⟨_, _, rfl, s8, ⟨_, _, rfl, ⟨A13, c13, rfl, l13, g13⟩, ⟨_, _, rfl, ⟨A14, c14, rfl, l14, g14⟩, ⟨_, _, rfl, ⟨A15, c15, rfl, l15, g15⟩, ⟨_, _, rfl, ⟨A16, c16, rfl, l16, g16⟩, ⟨_, _, rfl, ⟨A17, c17, rfl, l17, g17⟩, ⟨A18, c18, rfl, l18, g18⟩⟩⟩⟩⟩⟩⟩⟩ := h
  obtain ⟨A0, c0, A1, c1, A2, c2, A3, c3, A7, c7, rfl, l0, g0, l1, g1, l2, g2, l3, g3, l7, g7⟩ := k30_open s0
  obtain ⟨A10, c10, A11, c11, A12, c12, rfl, l10, g10, l11, g11, l12, g12⟩ := k35_open s8
  exact ⟨A0, c0, A1, c1, A2, c2, A3, c3, A7, c7, A10, c10, A11, c11, A12, c12, A13, c13, A14, c14, A15, c15, A16, c16, A17, c17, A18, c18, rfl, l0, g0, l1, g1, l2, g2, l3, g3, l7, g7, l10, g10, l11, g11, l12, g12, l13, g13, l14, g14, l15, g15, l16, g16, l17, g17, l18, g18⟩
theorem k40_openM {w : World} {base : Nat} {ok : Nat → Prop} {x : S40} {cs : List Value} (h : k40.M w base ok x cs) : ∃ v0 v1 v2 v3 v7 v10 v11 v12 v13 v14 v15 v16 v17 v18, cs = [v0, v1, v2, v3, .int .i64 x.f0.f2, .int .i64 x.f0.f3, .int .i64 x.f0.f4, v7, .string x.f1.f0, .int .i64 x.f1.f1, v10, v11, v12, v13, v14, v15, v16, v17, v18] ∧ k99.R 99 w base ok v0 x.f0.f0.f0 ∧ k187.R 187 w base ok v1 x.f0.f0.f1 ∧ k190.R 190 w base ok v2 x.f0.f0.f2 ∧ k140.R 140 w base ok v3 x.f0.f1 ∧ k143.R 143 w base ok v7 x.f0.f5 ∧ k146.R 146 w base ok v10 x.f1.f2 ∧ k152.R 152 w base ok v11 x.f1.f3 ∧ (Kd.int .i64).R 3 w base ok v12 x.f1.f4 ∧ k99.R 99 w base ok v13 x.f2 ∧ k102.R 102 w base ok v14 x.f3 ∧ (Kd.int .i64).R 3 w base ok v15 x.f4 ∧ k105.R 105 w base ok v16 x.f5 ∧ Kd.string.R 9 w base ok v17 x.f6 ∧ Kd.string.R 9 w base ok v18 x.f7 := by
  obtain ⟨_, _, rfl, s0, ⟨_, _, rfl, s8, ⟨_, _, rfl, ⟨v13, rfl, g13⟩, ⟨_, _, rfl, ⟨v14, rfl, g14⟩, ⟨_, _, rfl, ⟨v15, rfl, g15⟩, ⟨_, _, rfl, ⟨v16, rfl, g16⟩, ⟨_, _, rfl, ⟨v17, rfl, g17⟩, ⟨v18, rfl, g18⟩⟩⟩⟩⟩⟩⟩⟩ := h
  obtain ⟨v0, v1, v2, v3, v7, rfl, g0, g1, g2, g3, g7⟩ := k30_openM s0
  obtain ⟨v10, v11, v12, rfl, g10, g11, g12⟩ := k35_openM s8
  exact ⟨v0, v1, v2, v3, v7, v10, v11, v12, v13, v14, v15, v16, v17, v18, rfl, g0, g1, g2, g3, g7, g10, g11, g12, g13, g14, g15, g16, g17, g18⟩
theorem k40_mk (w : World) (x : S40) {A0 : Option Addr} {c0 : Nat} (l0 : x.f0.f0.f0.length ≤ c0) (g0 : k99.C w A0 x.f0.f0.f0.length x.f0.f0.f0) {A1 : Option Addr} {c1 : Nat} (l1 : x.f0.f0.f1.length ≤ c1) (g1 : k187.C w A1 x.f0.f0.f1.length x.f0.f0.f1) {A2 : Option Addr} {c2 : Nat} (l2 : x.f0.f0.f2.length ≤ c2) (g2 : k190.C w A2 x.f0.f0.f2.length x.f0.f0.f2) {A3 : Option Addr} {c3 : Nat} (l3 : x.f0.f1.length ≤ c3) (g3 : k140.C w A3 x.f0.f1.length x.f0.f1) {A7 : Option Addr} {c7 : Nat} (l7 : x.f0.f5.length ≤ c7) (g7 : k143.C w A7 x.f0.f5.length x.f0.f5) {A10 : Option Addr} {c10 : Nat} (l10 : x.f1.f2.length ≤ c10) (g10 : k146.C w A10 x.f1.f2.length x.f1.f2) {A11 : Option Addr} {c11 : Nat} (l11 : x.f1.f3.length ≤ c11) (g11 : k152.C w A11 x.f1.f3.length x.f1.f3) {A12 : Option Addr} {c12 : Nat} (l12 : x.f1.f4.length ≤ c12) (g12 : (Kd.int .i64).C w A12 x.f1.f4.length x.f1.f4) {A13 : Option Addr} {c13 : Nat} (l13 : x.f2.length ≤ c13) (g13 : k99.C w A13 x.f2.length x.f2) {A14 : Option Addr} {c14 : Nat} (l14 : x.f3.length ≤ c14) (g14 : k102.C w A14 x.f3.length x.f3) {A15 : Option Addr} {c15 : Nat} (l15 : x.f4.length ≤ c15) (g15 : (Kd.int .i64).C w A15 x.f4.length x.f4) {A16 : Option Addr} {c16 : Nat} (l16 : x.f5.length ≤ c16) (g16 : k105.C w A16 x.f5.length x.f5) {A17 : Option Addr} {c17 : Nat} (l17 : x.f6.length ≤ c17) (g17 : Kd.string.C w A17 x.f6.length x.f6) {A18 : Option Addr} {c18 : Nat} (l18 : x.f7.length ≤ c18) (g18 : Kd.string.C w A18 x.f7.length x.f7) : k40.K w x [.slice A0 x.f0.f0.f0.length c0, .slice A1 x.f0.f0.f1.length c1, .slice A2 x.f0.f0.f2.length c2, .slice A3 x.f0.f1.length c3, .int .i64 x.f0.f2, .int .i64 x.f0.f3, .int .i64 x.f0.f4, .slice A7 x.f0.f5.length c7, .string x.f1.f0, .int .i64 x.f1.f1, .slice A10 x.f1.f2.length c10, .slice A11 x.f1.f3.length c11, .slice A12 x.f1.f4.length c12, .slice A13 x.f2.length c13, .slice A14 x.f3.length c14, .slice A15 x.f4.length c15, .slice A16 x.f5.length c16, .slice A17 x.f6.length c17, .slice A18 x.f7.length c18] := ⟨[.slice A0 x.f0.f0.f0.length c0, .slice A1 x.f0.f0.f1.length c1, .slice A2 x.f0.f0.f2.length c2, .slice A3 x.f0.f1.length c3, .int .i64 x.f0.f2, .int .i64 x.f0.f3, .int .i64 x.f0.f4, .slice A7 x.f0.f5.length c7], [.string x.f1.f0, .int .i64 x.f1.f1, .slice A10 x.f1.f2.length c10, .slice A11 x.f1.f3.length c11, .slice A12 x.f1.f4.length c12, .slice A13 x.f2.length c13, .slice A14 x.f3.length c14, .slice A15 x.f4.length c15, .slice A16 x.f5.length c16, .slice A17 x.f6.length c17, .slice A18 x.f7.length c18], rfl, (k30_mk w x.f0 l0 g0 l1 g1 l2 g2 l3 g3 l7 g7), ⟨[.string x.f1.f0, .int .i64 x.f1.f1, .slice A10 x.f1.f2.length c10, .slice A11 x.f1.f3.length c11, .slice A12 x.f1.f4.length c12], [.slice A13 x.f2.length c13, .slice A14 x.f3.length c14, .slice A15 x.f4.length c15, .slice A16 x.f5.length c16, .slice A17 x.f6.length c17, .slice A18 x.f7.length c18], rfl, (k35_mk w x.f1 l10 g10 l11 g11 l12 g12), ⟨[.slice A13 x.f2.length c13], [.slice A14 x.f3.length c14, .slice A15 x.f4.length c15, .slice A16 x.f5.length c16, .slice A17 x.f6.length c17, .slice A18 x.f7.length c18], rfl, ⟨A13, c13, rfl, l13, g13⟩, ⟨[.slice A14 x.f3.length c14], [.slice A15 x.f4.length c15, .slice A16 x.f5.length c16, .slice A17 x.f6.length c17, .slice A18 x.f7.length c18], rfl, ⟨A14, c14, rfl, l14, g14⟩, ⟨[.slice A15 x.f4.length c15], [.slice A16 x.f5.length c16, .slice A17 x.f6.length c17, .slice A18 x.f7.length c18], rfl, ⟨A15, c15, rfl, l15, g15⟩, ⟨[.slice A16 x.f5.length c16], [.slice A17 x.f6.length c17, .slice A18 x.f7.length c18], rfl, ⟨A16, c16, rfl, l16, g16⟩, ⟨[.slice A17 x.f6.length c17], [.slice A18 x.f7.length c18], rfl, ⟨A17, c17, rfl, l17, g17⟩, ⟨A18, c18, rfl, l18, g18⟩⟩⟩⟩⟩⟩⟩⟩
theorem k40_mkM (w : World) (base : Nat) (ok : Nat → Prop) (x : S40) {v0 : Value} (g0 : k99.R 99 w base ok v0 x.f0.f0.f0) {v1 : Value} (g1 : k187.R 187 w base ok v1 x.f0.f0.f1) {v2 : Value} (g2 : k190.R 190 w base ok v2 x.f0.f0.f2) {v3 : Value} (g3 : k140.R 140 w base ok v3 x.f0.f1) {v7 : Value} (g7 : k143.R 143 w base ok v7 x.f0.f5) {v10 : Value} (g10 : k146.R 146 w base ok v10 x.f1.f2) {v11 : Value} (g11 : k152.R 152 w base ok v11 x.f1.f3) {v12 : Value} (g12 : (Kd.int .i64).R 3 w base ok v12 x.f1.f4) {v13 : Value} (g13 : k99.R 99 w base ok v13 x.f2) {v14 : Value} (g14 : k102.R 102 w base ok v14 x.f3) {v15 : Value} (g15 : (Kd.int .i64).R 3 w base ok v15 x.f4) {v16 : Value} (g16 : k105.R 105 w base ok v16 x.f5) {v17 : Value} (g17 : Kd.string.R 9 w base ok v17 x.f6) {v18 : Value} (g18 : Kd.string.R 9 w base ok v18 x.f7) : k40.M w base ok x [v0, v1, v2, v3, .int .i64 x.f0.f2, .int .i64 x.f0.f3, .int .i64 x.f0.f4, v7, .string x.f1.f0, .int .i64 x.f1.f1, v10, v11, v12, v13, v14, v15, v16, v17, v18] := ⟨[v0, v1, v2, v3, .int .i64 x.f0.f2, .int .i64 x.f0.f3, .int .i64 x.f0.f4, v7], [.string x.f1.f0, .int .i64 x.f1.f1, v10, v11, v12, v13, v14, v15, v16, v17, v18], rfl, (k30_mkM w base ok x.f0 g0 g1 g2 g3 g7), ⟨[.string x.f1.f0, .int .i64 x.f1.f1, v10, v11, v12], [v13, v14, v15, v16, v17, v18], rfl, (k35_mkM w base ok x.f1 g10 g11 g12), ⟨[v13], [v14, v15, v16, v17, v18], rfl, ⟨v13, rfl, g13⟩, ⟨[v14], [v15, v16, v17, v18], rfl, ⟨v14, rfl, g14⟩, ⟨[v15], [v16, v17, v18], rfl, ⟨v15, rfl, g15⟩, ⟨[v16], [v17, v18], rfl, ⟨v16, rfl, g16⟩, ⟨[v17], [v18], rfl, ⟨v17, rfl, g17⟩, ⟨v18, rfl, g18⟩⟩⟩⟩⟩⟩⟩⟩
def rd_T40 (xs : List S40) (i : Int) : S40 := xs.getD i.toNat z40
theorem at_T40 {w : World} {A : Option Addr} {n : Nat} {xs : List S40} (h : Kd.C k40 w A n xs) (i : Int) (h0 : 0 ≤ i) (h1 : i < n) : ∃ ad A0 c0 A1 c1 A2 c2 A3 c3 A7 c7 A10 c10 A11 c11 A12 c12 A13 c13 A14 c14 A15 c15 A16 c16 A17 c17 A18 c18, A = some ad ∧ w.cell? (ad.add (i.toNat * 19)) = some (.slice A0 (rd_T40 xs i).f0.f0.f0.length c0) ∧ w.cell? ⟨(ad.add (i.toNat * 19)).block, (ad.add (i.toNat * 19)).off + 1, none⟩ = some (.slice A1 (rd_T40 xs i).f0.f0.f1.length c1) ∧ w.cell? ⟨(ad.add (i.toNat * 19)).block, (ad.add (i.toNat * 19)).off + 2, none⟩ = some (.slice A2 (rd_T40 xs i).f0.f0.f2.length c2) ∧ w.cell? ⟨(ad.add (i.toNat * 19)).block, (ad.add (i.toNat * 19)).off + 3, none⟩ = some (.slice A3 (rd_T40 xs i).f0.f1.length c3) ∧ w.cell? ⟨(ad.add (i.toNat * 19)).block, (ad.add (i.toNat * 19)).off + 4, none⟩ = some (.int .i64 (rd_T40 xs i).f0.f2) ∧ w.cell? ⟨(ad.add (i.toNat * 19)).block, (ad.add (i.toNat * 19)).off + 5, none⟩ = some (.int .i64 (rd_T40 xs i).f0.f3) ∧ w.cell? ⟨(ad.add (i.toNat * 19)).block, (ad.add (i.toNat * 19)).off + 6, none⟩ = some (.int .i64 (rd_T40 xs i).f0.f4) ∧ w.cell? ⟨(ad.add (i.toNat * 19)).block, (ad.add (i.toNat * 19)).off + 7, none⟩ = some (.slice A7 (rd_T40 xs i).f0.f5.length c7) ∧ w.cell? ⟨(ad.add (i.toNat * 19)).block, (ad.add (i.toNat * 19)).off + 8, none⟩ = some (.string (rd_T40 xs i).f1.f0) ∧ w.cell? ⟨(ad.add (i.toNat * 19)).block, (ad.add (i.toNat * 19)).off + 9, none⟩ = some (.int .i64 (rd_T40 xs i).f1.f1) ∧ w.cell? ⟨(ad.add (i.toNat * 19)).block, (ad.add (i.toNat * 19)).off + 10, none⟩ = some (.slice A10 (rd_T40 xs i).f1.f2.length c10) ∧ w.cell? ⟨(ad.add (i.toNat * 19)).block, (ad.add (i.toNat * 19)).off + 11, none⟩ = some (.slice A11 (rd_T40 xs i).f1.f3.length c11) ∧ w.cell? ⟨(ad.add (i.toNat * 19)).block, (ad.add (i.toNat * 19)).off + 12, none⟩ = some (.slice A12 (rd_T40 xs i).f1.f4.length c12) ∧ w.cell? ⟨(ad.add (i.toNat * 19)).block, (ad.add (i.toNat * 19)).off + 13, none⟩ = some (.slice A13 (rd_T40 xs i).f2.length c13) ∧ w.cell? ⟨(ad.add (i.toNat * 19)).block, (ad.add (i.toNat * 19)).off + 14, none⟩ = some (.slice A14 (rd_T40 xs i).f3.length c14) ∧ w.cell? ⟨(ad.add (i.toNat * 19)).block, (ad.add (i.toNat * 19)).off + 15, none⟩ = some (.slice A15 (rd_T40 xs i).f4.length c15) ∧ w.cell? ⟨(ad.add (i.toNat * 19)).block, (ad.add (i.toNat * 19)).off + 16, none⟩ = some (.slice A16 (rd_T40 xs i).f5.length c16) ∧ w.cell? ⟨(ad.add (i.toNat * 19)).block, (ad.add (i.toNat * 19)).off + 17, none⟩ = some (.slice A17 (rd_T40 xs i).f6.length c17) ∧ w.cell? ⟨(ad.add (i.toNat * 19)).block, (ad.add (i.toNat * 19)).off + 18, none⟩ = some (.slice A18 (rd_T40 xs i).f7.length c18) ∧ (rd_T40 xs i).f0.f0.f0.length ≤ c0 ∧ k99.C w A0 (rd_T40 xs i).f0.f0.f0.length (rd_T40 xs i).f0.f0.f0 ∧ (rd_T40 xs i).f0.f0.f1.length ≤ c1 ∧ k187.C w A1 (rd_T40 xs i).f0.f0.f1.length (rd_T40 xs i).f0.f0.f1 ∧ (rd_T40 xs i).f0.f0.f2.length ≤ c2 ∧ k190.C w A2 (rd_T40 xs i).f0.f0.f2.length (rd_T40 xs i).f0.f0.f2 ∧ (rd_T40 xs i).f0.f1.length ≤ c3 ∧ k140.C w A3 (rd_T40 xs i).f0.f1.length (rd_T40 xs i).f0.f1 ∧ (rd_T40 xs i).f0.f5.length ≤ c7 ∧ k143.C w A7 (rd_T40 xs i).f0.f5.length (rd_T40 xs i).f0.f5 ∧ (rd_T40 xs i).f1.f2.length ≤ c10 ∧ k146.C w A10 (rd_T40 xs i).f1.f2.length (rd_T40 xs i).f1.f2 ∧ (rd_T40 xs i).f1.f3.length ≤ c11 ∧ k152.C w A11 (rd_T40 xs i).f1.f3.length (rd_T40 xs i).f1.f3 ∧ (rd_T40 xs i).f1.f4.length ≤ c12 ∧ (Kd.int .i64).C w A12 (rd_T40 xs i).f1.f4.length (rd_T40 xs i).f1.f4 ∧ (rd_T40 xs i).f2.length ≤ c13 ∧ k99.C w A13 (rd_T40 xs i).f2.length (rd_T40 xs i).f2 ∧ (rd_T40 xs i).f3.length ≤ c14 ∧ k102.C w A14 (rd_T40 xs i).f3.length (rd_T40 xs i).f3 ∧ (rd_T40 xs i).f4.length ≤ c15 ∧ (Kd.int .i64).C w A15 (rd_T40 xs i).f4.length (rd_T40 xs i).f4 ∧ (rd_T40 xs i).f5.length ≤ c16 ∧ k105.C w A16 (rd_T40 xs i).f5.length (rd_T40 xs i).f5 ∧ (rd_T40 xs i).f6.length ≤ c17 ∧ Kd.string.C w A17 (rd_T40 xs i).f6.length (rd_T40 xs i).f6 ∧ (rd_T40 xs i).f7.length ≤ c18 ∧ Kd.string.C w A18 (rd_T40 xs i).f7.length (rd_T40 xs i).f7 := by
  obtain ⟨ad, c, e, _, hK, hc0⟩ := Kd.C_get h z40 i h0 h1
  have hc : ∀ j u, c[j]? = some u → w.cell? (ad.add (i.toNat * 19 + j)) = some u := hc0
  obtain ⟨A0, c0, A1, c1, A2, c2, A3, c3, A7, c7, A10, c10, A11, c11, A12, c12, A13, c13, A14, c14, A15, c15, A16, c16, A17, c17, A18, c18, rfl, l0, g0, l1, g1, l2, g2, l3, g3, l7, g7, l10, g10, l11, g11, l12, g12, l13, g13, l14, g14, l15, g15, l16, g16, l17, g17, l18, g18⟩ := k40_open hK
  exact ⟨ad, A0, c0, A1, c1, A2, c2, A3, c3, A7, c7, A10, c10, A11, c11, A12, c12, A13, c13, A14, c14, A15, c15, A16, c16, A17, c17, A18, c18, e, hc 0 _ rfl, by rw [← add_field _ _ 1 (by omega)]; exact hc 1 _ rfl, by rw [← add_field _ _ 2 (by omega)]; exact hc 2 _ rfl, by rw [← add_field _ _ 3 (by omega)]; exact hc 3 _ rfl, by rw [← add_field _ _ 4 (by omega)]; exact hc 4 _ rfl, by rw [← add_field _ _ 5 (by omega)]; exact hc 5 _ rfl, by rw [← add_field _ _ 6 (by omega)]; exact hc 6 _ rfl, by rw [← add_field _ _ 7 (by omega)]; exact hc 7 _ rfl, by rw [← add_field _ _ 8 (by omega)]; exact hc 8 _ rfl, by rw [← add_field _ _ 9 (by omega)]; exact hc 9 _ rfl, by rw [← add_field _ _ 10 (by omega)]; exact hc 10 _ rfl, by rw [← add_field _ _ 11 (by omega)]; exact hc 11 _ rfl, by rw [← add_field _ _ 12 (by omega)]; exact hc 12 _ rfl, by rw [← add_field _ _ 13 (by omega)]; exact hc 13 _ rfl, by rw [← add_field _ _ 14 (by omega)]; exact hc 14 _ rfl, by rw [← add_field _ _ 15 (by omega)]; exact hc 15 _ rfl, by rw [← add_field _ _ 16 (by omega)]; exact hc 16 _ rfl, by rw [← add_field _ _ 17 (by omega)]; exact hc 17 _ rfl, by rw [← add_field _ _ 18 (by omega)]; exact hc 18 _ rfl, l0, g0, l1, g1, l2, g2, l3, g3, l7, g7, l10, g10, l11, g11, l12, g12, l13, g13, l14, g14, l15, g15, l16, g16, l17, g17, l18, g18⟩

/-! #### struct type 154 -/
structure S154 where
  f0 : Int
  f1 : Int
  f2 : (List ByteArray)
  f3 : (List ByteArray)
def z154 : S154 := ⟨(0 : Int), (0 : Int), ([] : List ByteArray), ([] : List ByteArray)⟩
def k154 : Kd S154 := Kd.iso (Kd.pair (Kd.int .i64) (Kd.pair (Kd.int .i64) (Kd.pair (Kd.slice 9 Kd.string) (Kd.slice 9 Kd.string)))) (fun x : S154 => (x.f0, x.f1, x.f2, x.f3))
theorem k154_open {w : World} {x : S154} {cs : List Value} (h : k154.K w x cs) : ∃ A2 c2 A3 c3, cs = [.int .i64 x.f0, .int .i64 x.f1, .slice A2 x.f2.length c2, .slice A3 x.f3.length c3] ∧ x.f2.length ≤ c2 ∧ Kd.string.C w A2 x.f2.length x.f2 ∧ x.f3.length ≤ c3 ∧ Kd.string.C w A3 x.f3.length x.f3 := by
  obtain ⟨_, _, rfl, rfl, ⟨_, _, rfl, rfl, ⟨_, _, rfl, ⟨A2, c2, rfl, l2, g2⟩, ⟨A3, c3, rfl, l3, g3⟩⟩⟩⟩ := h
  exact ⟨A2, c2, A3, c3, rfl, l2, g2, l3, g3⟩
theorem k154_openM {w : World} {base : Nat} {ok : Nat → Prop} {x : S154} {cs : List Value} (h : k154.M w base ok x cs) : ∃ v2 v3, cs = [.int .i64 x.f0, .int .i64 x.f1, v2, v3] ∧ Kd.string.R 9 w base ok v2 x.f2 ∧ Kd.string.R 9 w base ok v3 x.f3 := by
  obtain ⟨_, _, rfl, rfl, ⟨_, _, rfl, rfl, ⟨_, _, rfl, ⟨v2, rfl, g2⟩, ⟨v3, rfl, g3⟩⟩⟩⟩ := h
  exact ⟨v2, v3, rfl, g2, g3⟩
theorem k154_mk (w : World) (x : S154) {A2 : Option Addr} {c2 : Nat} (l2 : x.f2.length ≤ c2) (g2 : Kd.string.C w A2 x.f2.length x.f2) {A3 : Option Addr} {c3 : Nat} (l3 : x.f3.length ≤ c3) (g3 : Kd.string.C w A3 x.f3.length x.f3) : k154.K w x [.int .i64 x.f0, .int .i64 x.f1, .slice A2 x.f2.length c2, .slice A3 x.f3.length c3] := ⟨[.int .i64 x.f0], [.int .i64 x.f1, .slice A2 x.f2.length c2, .slice A3 x.f3.length c3], rfl, rfl, ⟨[.int .i64 x.f1], [.slice A2 x.f2.length c2, .slice A3 x.f3.length c3], rfl, rfl, ⟨[.slice A2 x.f2.length c2], [.slice A3 x.f3.length c3], rfl, ⟨A2, c2, rfl, l2, g2⟩, ⟨A3, c3, rfl, l3, g3⟩⟩⟩⟩
theorem k154_mkM (w : World) (base : Nat) (ok : Nat → Prop) (x : S154) {v2 : Value} (g2 : Kd.string.R 9 w base ok v2 x.f2) {v3 : Value} (g3 : Kd.string.R 9 w base ok v3 x.f3) : k154.M w base ok x [.int .i64 x.f0, .int .i64 x.f1, v2, v3] := ⟨[.int .i64 x.f0], [.int .i64 x.f1, v2, v3], rfl, rfl, ⟨[.int .i64 x.f1], [v2, v3], rfl, rfl, ⟨[v2], [v3], rfl, ⟨v2, rfl, g2⟩, ⟨v3, rfl, g3⟩⟩⟩⟩
def rd_T154 (xs : List S154) (i : Int) : S154 := xs.getD i.toNat z154
theorem at_T154 {w : World} {A : Option Addr} {n : Nat} {xs : List S154} (h : Kd.C k154 w A n xs) (i : Int) (h0 : 0 ≤ i) (h1 : i < n) : ∃ ad A2 c2 A3 c3, A = some ad ∧ w.cell? (ad.add (i.toNat * 4)) = some (.int .i64 (rd_T154 xs i).f0) ∧ w.cell? ⟨(ad.add (i.toNat * 4)).block, (ad.add (i.toNat * 4)).off + 1, none⟩ = some (.int .i64 (rd_T154 xs i).f1) ∧ w.cell? ⟨(ad.add (i.toNat * 4)).block, (ad.add (i.toNat * 4)).off + 2, none⟩ = some (.slice A2 (rd_T154 xs i).f2.length c2) ∧ w.cell? ⟨(ad.add (i.toNat * 4)).block, (ad.add (i.toNat * 4)).off + 3, none⟩ = some (.slice A3 (rd_T154 xs i).f3.length c3) ∧ (rd_T154 xs i).f2.length ≤ c2 ∧ Kd.string.C w A2 (rd_T154 xs i).f2.length (rd_T154 xs i).f2 ∧ (rd_T154 xs i).f3.length ≤ c3 ∧ Kd.string.C w A3 (rd_T154 xs i).f3.length (rd_T154 xs i).f3 := by
  obtain ⟨ad, c, e, _, hK, hc0⟩ := Kd.C_get h z154 i h0 h1
  have hc : ∀ j u, c[j]? = some u → w.cell? (ad.add (i.toNat * 4 + j)) = some u := hc0
  obtain ⟨A2, c2, A3, c3, rfl, l2, g2, l3, g3⟩ := k154_open hK
  exact ⟨ad, A2, c2, A3, c3, e, hc 0 _ rfl, by rw [← add_field _ _ 1 (by omega)]; exact hc 1 _ rfl, by rw [← add_field _ _ 2 (by omega)]; exact hc 2 _ rfl, by rw [← add_field _ _ 3 (by omega)]; exact hc 3 _ rfl, l2, g2, l3, g3⟩

def rd_L34 (xs : List (List S154)) (i : Int) : (List S154) := xs.getD i.toNat ([] : List S154)
theorem at_L34 {w : World} {A : Option Addr} {n : Nat} {xs : List (List S154)} (h : Kd.C (Kd.slice 154 k154) w A n xs) (i : Int) (h0 : 0 ≤ i) (h1 : i < n) : ∃ ad A0 c0, A = some ad ∧ w.cell? (ad.add i.toNat) = some (.slice A0 (rd_L34 xs i).length c0) ∧ (rd_L34 xs i).length ≤ c0 ∧ k154.C w A0 (rd_L34 xs i).length (rd_L34 xs i) := by
  obtain ⟨ad, c, e, _, hK, hc0⟩ := Kd.C_get h ([] : List S154) i h0 h1
  have hc : ∀ j u, c[j]? = some u → w.cell? (ad.add (i.toNat * 1 + j)) = some u := hc0
  obtain ⟨A0, c0, rfl, l0, g0⟩ := hK
  exact ⟨ad, A0, c0, e, by have hq := hc 0 _ rfl; rwa [Nat.mul_one, Nat.add_zero] at hq, l0, g0⟩

/-! #### struct type 74 -/
structure S74 where
  f0 : ByteArray
  f1 : Int
  f2 : Int
  f3 : Int
  f4 : Int
  f5 : Int
  f6 : (List S154)
  f7 : ByteArray
def z74 : S74 := ⟨(⟨#[]⟩ : ByteArray), (0 : Int), (0 : Int), (0 : Int), (0 : Int), (0 : Int), ([] : List S154), (⟨#[]⟩ : ByteArray)⟩
def k74 : Kd S74 := Kd.iso (Kd.pair Kd.string (Kd.pair (Kd.int .i64) (Kd.pair (Kd.int .i64) (Kd.pair (Kd.int .i64) (Kd.pair (Kd.int .i64) (Kd.pair (Kd.int .i64) (Kd.pair (Kd.slice 154 k154) Kd.string))))))) (fun x : S74 => (x.f0, x.f1, x.f2, x.f3, x.f4, x.f5, x.f6, x.f7))
theorem k74_open {w : World} {x : S74} {cs : List Value} (h : k74.K w x cs) : ∃ A6 c6, cs = [.string x.f0, .int .i64 x.f1, .int .i64 x.f2, .int .i64 x.f3, .int .i64 x.f4, .int .i64 x.f5, .slice A6 x.f6.length c6, .string x.f7] ∧ x.f6.length ≤ c6 ∧ k154.C w A6 x.f6.length x.f6 := by
  obtain ⟨_, _, rfl, rfl, ⟨_, _, rfl, rfl, ⟨_, _, rfl, rfl, ⟨_, _, rfl, rfl, ⟨_, _, rfl, rfl, ⟨_, _, rfl, rfl, ⟨_, _, rfl, ⟨A6, c6, rfl, l6, g6⟩, rfl⟩⟩⟩⟩⟩⟩⟩ := h
  exact ⟨A6, c6, rfl, l6, g6⟩
theorem k74_openM {w : World} {base : Nat} {ok : Nat → Prop} {x : S74} {cs : List Value} (h : k74.M w base ok x cs) : ∃ v6, cs = [.string x.f0, .int .i64 x.f1, .int .i64 x.f2, .int .i64 x.f3, .int .i64 x.f4, .int .i64 x.f5, v6, .string x.f7] ∧ k154.R 154 w base ok v6 x.f6 := by
  obtain ⟨_, _, rfl, rfl, ⟨_, _, rfl, rfl, ⟨_, _, rfl, rfl, ⟨_, _, rfl, rfl, ⟨_, _, rfl, rfl, ⟨_, _, rfl, rfl, ⟨_, _, rfl, ⟨v6, rfl, g6⟩, rfl⟩⟩⟩⟩⟩⟩⟩ := h
  exact ⟨v6, rfl, g6⟩
theorem k74_mk (w : World) (x : S74) {A6 : Option Addr} {c6 : Nat} (l6 : x.f6.length ≤ c6) (g6 : k154.C w A6 x.f6.length x.f6) : k74.K w x [.string x.f0, .int .i64 x.f1, .int .i64 x.f2, .int .i64 x.f3, .int .i64 x.f4, .int .i64 x.f5, .slice A6 x.f6.length c6, .string x.f7] := ⟨[.string x.f0], [.int .i64 x.f1, .int .i64 x.f2, .int .i64 x.f3, .int .i64 x.f4, .int .i64 x.f5, .slice A6 x.f6.length c6, .string x.f7], rfl, rfl, ⟨[.int .i64 x.f1], [.int .i64 x.f2, .int .i64 x.f3, .int .i64 x.f4, .int .i64 x.f5, .slice A6 x.f6.length c6, .string x.f7], rfl, rfl, ⟨[.int .i64 x.f2], [.int .i64 x.f3, .int .i64 x.f4, .int .i64 x.f5, .slice A6 x.f6.length c6, .string x.f7], rfl, rfl, ⟨[.int .i64 x.f3], [.int .i64 x.f4, .int .i64 x.f5, .slice A6 x.f6.length c6, .string x.f7], rfl, rfl, ⟨[.int .i64 x.f4], [.int .i64 x.f5, .slice A6 x.f6.length c6, .string x.f7], rfl, rfl, ⟨[.int .i64 x.f5], [.slice A6 x.f6.length c6, .string x.f7], rfl, rfl, ⟨[.slice A6 x.f6.length c6], [.string x.f7], rfl, ⟨A6, c6, rfl, l6, g6⟩, rfl⟩⟩⟩⟩⟩⟩⟩
theorem k74_mkM (w : World) (base : Nat) (ok : Nat → Prop) (x : S74) {v6 : Value} (g6 : k154.R 154 w base ok v6 x.f6) : k74.M w base ok x [.string x.f0, .int .i64 x.f1, .int .i64 x.f2, .int .i64 x.f3, .int .i64 x.f4, .int .i64 x.f5, v6, .string x.f7] := ⟨[.string x.f0], [.int .i64 x.f1, .int .i64 x.f2, .int .i64 x.f3, .int .i64 x.f4, .int .i64 x.f5, v6, .string x.f7], rfl, rfl, ⟨[.int .i64 x.f1], [.int .i64 x.f2, .int .i64 x.f3, .int .i64 x.f4, .int .i64 x.f5, v6, .string x.f7], rfl, rfl, ⟨[.int .i64 x.f2], [.int .i64 x.f3, .int .i64 x.f4, .int .i64 x.f5, v6, .string x.f7], rfl, rfl, ⟨[.int .i64 x.f3], [.int .i64 x.f4, .int .i64 x.f5, v6, .string x.f7], rfl, rfl, ⟨[.int .i64 x.f4], [.int .i64 x.f5, v6, .string x.f7], rfl, rfl, ⟨[.int .i64 x.f5], [v6, .string x.f7], rfl, rfl, ⟨[v6], [.string x.f7], rfl, ⟨v6, rfl, g6⟩, rfl⟩⟩⟩⟩⟩⟩⟩
def rd_T74 (xs : List S74) (i : Int) : S74 := xs.getD i.toNat z74
theorem at_T74 {w : World} {A : Option Addr} {n : Nat} {xs : List S74} (h : Kd.C k74 w A n xs) (i : Int) (h0 : 0 ≤ i) (h1 : i < n) : ∃ ad A6 c6, A = some ad ∧ w.cell? (ad.add (i.toNat * 8)) = some (.string (rd_T74 xs i).f0) ∧ w.cell? ⟨(ad.add (i.toNat * 8)).block, (ad.add (i.toNat * 8)).off + 1, none⟩ = some (.int .i64 (rd_T74 xs i).f1) ∧ w.cell? ⟨(ad.add (i.toNat * 8)).block, (ad.add (i.toNat * 8)).off + 2, none⟩ = some (.int .i64 (rd_T74 xs i).f2) ∧ w.cell? ⟨(ad.add (i.toNat * 8)).block, (ad.add (i.toNat * 8)).off + 3, none⟩ = some (.int .i64 (rd_T74 xs i).f3) ∧ w.cell? ⟨(ad.add (i.toNat * 8)).block, (ad.add (i.toNat * 8)).off + 4, none⟩ = some (.int .i64 (rd_T74 xs i).f4) ∧ w.cell? ⟨(ad.add (i.toNat * 8)).block, (ad.add (i.toNat * 8)).off + 5, none⟩ = some (.int .i64 (rd_T74 xs i).f5) ∧ w.cell? ⟨(ad.add (i.toNat * 8)).block, (ad.add (i.toNat * 8)).off + 6, none⟩ = some (.slice A6 (rd_T74 xs i).f6.length c6) ∧ w.cell? ⟨(ad.add (i.toNat * 8)).block, (ad.add (i.toNat * 8)).off + 7, none⟩ = some (.string (rd_T74 xs i).f7) ∧ (rd_T74 xs i).f6.length ≤ c6 ∧ k154.C w A6 (rd_T74 xs i).f6.length (rd_T74 xs i).f6 := by
  obtain ⟨ad, c, e, _, hK, hc0⟩ := Kd.C_get h z74 i h0 h1
  have hc : ∀ j u, c[j]? = some u → w.cell? (ad.add (i.toNat * 8 + j)) = some u := hc0
  obtain ⟨A6, c6, rfl, l6, g6⟩ := k74_open hK
  exact ⟨ad, A6, c6, e, hc 0 _ rfl, by rw [← add_field _ _ 1 (by omega)]; exact hc 1 _ rfl, by rw [← add_field _ _ 2 (by omega)]; exact hc 2 _ rfl, by rw [← add_field _ _ 3 (by omega)]; exact hc 3 _ rfl, by rw [← add_field _ _ 4 (by omega)]; exact hc 4 _ rfl, by rw [← add_field _ _ 5 (by omega)]; exact hc 5 _ rfl, by rw [← add_field _ _ 6 (by omega)]; exact hc 6 _ rfl, by rw [← add_field _ _ 7 (by omega)]; exact hc 7 _ rfl, l6, g6⟩

/-! #### struct type 110, nested in itself -/
structure S110 where
  f0 : Int
  f1 : ByteArray
  f2 : (List S110)
def z110 : S110 := ⟨(0 : Int), (⟨#[]⟩ : ByteArray), ([] : List S110)⟩
def F110 (d : Kd S110) : Kd S110 := Kd.iso (Kd.pair (Kd.int .i64) (Kd.pair Kd.string (Kd.slice 110 d))) (fun x : S110 => (x.f0, x.f1, x.f2))
theorem mono110 : Kd.Mono F110 := Kd.mono_iso _ (Kd.mono_pair (Kd.mono_const _) (Kd.mono_pair (Kd.mono_const _) (Kd.mono_slice 110 Kd.mono_id)))
theorem sub110 : Kd.Sub F110 [110] := Kd.sub_iso _ (Kd.sub_pair (Kd.sub_const _ (by decide)) (Kd.sub_pair (Kd.sub_const _ (by decide)) (Kd.sub_slice 110 (by decide) Kd.sub_id)))
theorem sz110 : ∀ n, (Kd.upto F110 3 [110] n).sz = 3 := Kd.upto_sz (fun _ => rfl)
def k110 : Kd S110 := Kd.fix F110 3 [110] sz110 (Kd.upto_E sub110)
theorem k110_open {w : World} {x : S110} {cs : List Value} (h : k110.K w x cs) : ∃ A2 c2, cs = [.int .i64 x.f0, .string x.f1, .slice A2 x.f2.length c2] ∧ x.f2.length ≤ c2 ∧ k110.C w A2 x.f2.length x.f2 := by
  obtain ⟨n, h⟩ := h
  cases n with
  | zero => exact h.elim
  | succ n =>
    obtain ⟨_, _, rfl, rfl, ⟨_, _, rfl, rfl, ⟨A2, c2, rfl, l2, g2⟩⟩⟩ := h
    exact ⟨A2, c2, rfl, l2, Kd.fix_C g2⟩
theorem k110_openM {w : World} {base : Nat} {ok : Nat → Prop} {x : S110} {cs : List Value} (h : k110.M w base ok x cs) : ∃ v2, cs = [.int .i64 x.f0, .string x.f1, v2] ∧ k110.R 110 w base ok v2 x.f2 := by
  obtain ⟨n, h⟩ := h
  cases n with
  | zero => exact h.elim
  | succ n =>
    obtain ⟨_, _, rfl, rfl, ⟨_, _, rfl, rfl, ⟨v2, rfl, g2⟩⟩⟩ := h
    exact ⟨v2, rfl, Kd.fix_R g2⟩
theorem k110_mk (w : World) (x : S110) {A2 : Option Addr} {c2 : Nat} (l2 : x.f2.length ≤ c2) (g2 : k110.C w A2 x.f2.length x.f2) : k110.K w x [.int .i64 x.f0, .string x.f1, .slice A2 x.f2.length c2] := by
  obtain ⟨n2, q2⟩ := Kd.fix_C_back mono110 g2
  have r2 := Kd.upto_C_le mono110 sz110 (show n2 ≤ n2 by omega) q2
  exact ⟨n2 + 1, ⟨[.int .i64 x.f0], [.string x.f1, .slice A2 x.f2.length c2], rfl, rfl, ⟨[.string x.f1], [.slice A2 x.f2.length c2], rfl, rfl, ⟨A2, c2, rfl, l2, r2⟩⟩⟩⟩
theorem k110_mkM (w : World) (base : Nat) (ok : Nat → Prop) (x : S110) {v2 : Value} (g2 : k110.R 110 w base ok v2 x.f2) : k110.M w base ok x [.int .i64 x.f0, .string x.f1, v2] := by
  obtain ⟨n2, q2⟩ := Kd.fix_R_back mono110 g2
  have r2 := Kd.upto_R_le mono110 sz110 (show n2 ≤ n2 by omega) q2
  exact ⟨n2 + 1, ⟨[.int .i64 x.f0], [.string x.f1, v2], rfl, rfl, ⟨[.string x.f1], [v2], rfl, rfl, ⟨v2, rfl, r2⟩⟩⟩⟩
def rd_T110 (xs : List S110) (i : Int) : S110 := xs.getD i.toNat z110
theorem at_T110 {w : World} {A : Option Addr} {n : Nat} {xs : List S110} (h : Kd.C k110 w A n xs) (i : Int) (h0 : 0 ≤ i) (h1 : i < n) : ∃ ad A2 c2, A = some ad ∧ w.cell? (ad.add (i.toNat * 3)) = some (.int .i64 (rd_T110 xs i).f0) ∧ w.cell? ⟨(ad.add (i.toNat * 3)).block, (ad.add (i.toNat * 3)).off + 1, none⟩ = some (.string (rd_T110 xs i).f1) ∧ w.cell? ⟨(ad.add (i.toNat * 3)).block, (ad.add (i.toNat * 3)).off + 2, none⟩ = some (.slice A2 (rd_T110 xs i).f2.length c2) ∧ (rd_T110 xs i).f2.length ≤ c2 ∧ k110.C w A2 (rd_T110 xs i).f2.length (rd_T110 xs i).f2 := by
  obtain ⟨ad, c, e, _, hK, hc0⟩ := Kd.C_get h z110 i h0 h1
  have hc : ∀ j u, c[j]? = some u → w.cell? (ad.add (i.toNat * 3 + j)) = some u := hc0
  obtain ⟨A2, c2, rfl, l2, g2⟩ := k110_open hK
  exact ⟨ad, A2, c2, e, hc 0 _ rfl, by rw [← add_field _ _ 1 (by omega)]; exact hc 1 _ rfl, by rw [← add_field _ _ 2 (by omega)]; exact hc 2 _ rfl, l2, g2⟩

/-! #### struct type 118 -/
structure S118 where
  f0 : Int
  f1 : ByteArray
  f2 : ByteArray
  f3 : Int
  f4 : Int
  f5 : ByteArray
  f6 : Bool
  f7 : Int
  f8 : Int
  f9 : (List Int)
  f10 : (List ByteArray)
  f11 : (List ByteArray)
  f12 : ByteArray
def z118 : S118 := ⟨(0 : Int), (⟨#[]⟩ : ByteArray), (⟨#[]⟩ : ByteArray), (0 : Int), (0 : Int), (⟨#[]⟩ : ByteArray), false, (0 : Int), (0 : Int), ([] : List Int), ([] : List ByteArray), ([] : List ByteArray), (⟨#[]⟩ : ByteArray)⟩
def k118 : Kd S118 := Kd.iso (Kd.pair (Kd.int .i64) (Kd.pair Kd.string (Kd.pair Kd.string (Kd.pair (Kd.int .i64) (Kd.pair (Kd.int .i64) (Kd.pair Kd.string (Kd.pair Kd.bool (Kd.pair (Kd.int .i64) (Kd.pair (Kd.int .i64) (Kd.pair (Kd.slice 3 (Kd.int .i64)) (Kd.pair (Kd.slice 9 Kd.string) (Kd.pair (Kd.slice 9 Kd.string) Kd.string)))))))))))) (fun x : S118 => (x.f0, x.f1, x.f2, x.f3, x.f4, x.f5, x.f6, x.f7, x.f8, x.f9, x.f10, x.f11, x.f12))
theorem k118_open {w : World} {x : S118} {cs : List Value} (h : k118.K w x cs) : ∃ A9 c9 A10 c10 A11 c11, cs = [.int .i64 x.f0, .string x.f1, .string x.f2, .int .i64 x.f3, .int .i64 x.f4, .string x.f5, .bool x.f6, .int .i64 x.f7, .int .i64 x.f8, .slice A9 x.f9.length c9, .slice A10 x.f10.length c10, .slice A11 x.f11.length c11, .string x.f12] ∧ x.f9.length ≤ c9 ∧ (Kd.int .i64).C w A9 x.f9.length x.f9 ∧ x.f10.length ≤ c10 ∧ Kd.string.C w A10 x.f10.length x.f10 ∧ x.f11.length ≤ c11 ∧ Kd.string.C w A11 x.f11.length x.f11 := by
  obtain ⟨_, _, rfl, rfl, ⟨_, _, rfl, rfl, ⟨_, _, rfl, rfl, ⟨_, _, rfl, rfl, ⟨_, _, rfl, rfl, ⟨_, _, rfl, rfl, ⟨_, _, rfl, rfl, ⟨_, _, rfl, rfl, ⟨_, _, rfl, rfl, ⟨_, _, rfl, ⟨A9, c9, rfl, l9, g9⟩, ⟨_, _, rfl, ⟨A10, c10, rfl, l10, g10⟩, ⟨_, _, rfl, ⟨A11, c11, rfl, l11, g11⟩, rfl⟩⟩⟩⟩⟩⟩⟩⟩⟩⟩⟩⟩ := h
  exact ⟨A9, c9, A10, c10, A11, c11, rfl, l9, g9, l10, g10, l11, g11⟩
theorem k118_openM {w : World} {base : Nat} {ok : Nat → Prop} {x : S118} {cs : List Value} (h : k118.M w base ok x cs) : ∃ v9 v10 v11, cs = [.int .i64 x.f0, .string x.f1, .string x.f2, .int .i64 x.f3, .int .i64 x.f4, .string x.f5, .bool x.f6, .int .i64 x.f7, .int .i64 x.f8, v9, v10, v11, .string x.f12] ∧ (Kd.int .i64).R 3 w base ok v9 x.f9 ∧ Kd.string.R 9 w base ok v10 x.f10 ∧ Kd.string.R 9 w base ok v11 x.f11 := by
  obtain ⟨_, _, rfl, rfl, ⟨_, _, rfl, rfl, ⟨_, _, rfl, rfl, ⟨_, _, rfl, rfl, ⟨_, _, rfl, rfl, ⟨_, _, rfl, rfl, ⟨_, _, rfl, rfl, ⟨_, _, rfl, rfl, ⟨_, _, rfl, rfl, ⟨_, _, rfl, ⟨v9, rfl, g9⟩, ⟨_, _, rfl, ⟨v10, rfl, g10⟩, ⟨_, _, rfl, ⟨v11, rfl, g11⟩, rfl⟩⟩⟩⟩⟩⟩⟩⟩⟩⟩⟩⟩ := h
  exact ⟨v9, v10, v11, rfl, g9, g10, g11⟩
theorem k118_mk (w : World) (x : S118) {A9 : Option Addr} {c9 : Nat} (l9 : x.f9.length ≤ c9) (g9 : (Kd.int .i64).C w A9 x.f9.length x.f9) {A10 : Option Addr} {c10 : Nat} (l10 : x.f10.length ≤ c10) (g10 : Kd.string.C w A10 x.f10.length x.f10) {A11 : Option Addr} {c11 : Nat} (l11 : x.f11.length ≤ c11) (g11 : Kd.string.C w A11 x.f11.length x.f11) : k118.K w x [.int .i64 x.f0, .string x.f1, .string x.f2, .int .i64 x.f3, .int .i64 x.f4, .string x.f5, .bool x.f6, .int .i64 x.f7, .int .i64 x.f8, .slice A9 x.f9.length c9, .slice A10 x.f10.length c10, .slice A11 x.f11.length c11, .string x.f12] := ⟨[.int .i64 x.f0], [.string x.f1, .string x.f2, .int .i64 x.f3, .int .i64 x.f4, .string x.f5, .bool x.f6, .int .i64 x.f7, .int .i64 x.f8, .slice A9 x.f9.length c9, .slice A10 x.f10.length c10, .slice A11 x.f11.length c11, .string x.f12], rfl, rfl, ⟨[.string x.f1], [.string x.f2, .int .i64 x.f3, .int .i64 x.f4, .string x.f5, .bool x.f6, .int .i64 x.f7, .int .i64 x.f8, .slice A9 x.f9.length c9, .slice A10 x.f10.length c10, .slice A11 x.f11.length c11, .string x.f12], rfl, rfl, ⟨[.string x.f2], [.int .i64 x.f3, .int .i64 x.f4, .string x.f5, .bool x.f6, .int .i64 x.f7, .int .i64 x.f8, .slice A9 x.f9.length c9, .slice A10 x.f10.length c10, .slice A11 x.f11.length c11, .string x.f12], rfl, rfl, ⟨[.int .i64 x.f3], [.int .i64 x.f4, .string x.f5, .bool x.f6, .int .i64 x.f7, .int .i64 x.f8, .slice A9 x.f9.length c9, .slice A10 x.f10.length c10, .slice A11 x.f11.length c11, .string x.f12], rfl, rfl, ⟨[.int .i64 x.f4], [.string x.f5, .bool x.f6, .int .i64 x.f7, .int .i64 x.f8, .slice A9 x.f9.length c9, .slice A10 x.f10.length c10, .slice A11 x.f11.length c11, .string x.f12], rfl, rfl, ⟨[.string x.f5], [.bool x.f6, .int .i64 x.f7, .int .i64 x.f8, .slice A9 x.f9.length c9, .slice A10 x.f10.length c10, .slice A11 x.f11.length c11, .string x.f12], rfl, rfl, ⟨[.bool x.f6], [.int .i64 x.f7, .int .i64 x.f8, .slice A9 x.f9.length c9, .slice A10 x.f10.length c10, .slice A11 x.f11.length c11, .string x.f12], rfl, rfl, ⟨[.int .i64 x.f7], [.int .i64 x.f8, .slice A9 x.f9.length c9, .slice A10 x.f10.length c10, .slice A11 x.f11.length c11, .string x.f12], rfl, rfl, ⟨[.int .i64 x.f8], [.slice A9 x.f9.length c9, .slice A10 x.f10.length c10, .slice A11 x.f11.length c11, .string x.f12], rfl, rfl, ⟨[.slice A9 x.f9.length c9], [.slice A10 x.f10.length c10, .slice A11 x.f11.length c11, .string x.f12], rfl, ⟨A9, c9, rfl, l9, g9⟩, ⟨[.slice A10 x.f10.length c10], [.slice A11 x.f11.length c11, .string x.f12], rfl, ⟨A10, c10, rfl, l10, g10⟩, ⟨[.slice A11 x.f11.length c11], [.string x.f12], rfl, ⟨A11, c11, rfl, l11, g11⟩, rfl⟩⟩⟩⟩⟩⟩⟩⟩⟩⟩⟩⟩
theorem k118_mkM (w : World) (base : Nat) (ok : Nat → Prop) (x : S118) {v9 : Value} (g9 : (Kd.int .i64).R 3 w base ok v9 x.f9) {v10 : Value} (g10 : Kd.string.R 9 w base ok v10 x.f10) {v11 : Value} (g11 : Kd.string.R 9 w base ok v11 x.f11) : k118.M w base ok x [.int .i64 x.f0, .string x.f1, .string x.f2, .int .i64 x.f3, .int .i64 x.f4, .string x.f5, .bool x.f6, .int .i64 x.f7, .int .i64 x.f8, v9, v10, v11, .string x.f12] := ⟨[.int .i64 x.f0], [.string x.f1, .string x.f2, .int .i64 x.f3, .int .i64 x.f4, .string x.f5, .bool x.f6, .int .i64 x.f7, .int .i64 x.f8, v9, v10, v11, .string x.f12], rfl, rfl, ⟨[.string x.f1], [.string x.f2, .int .i64 x.f3, .int .i64 x.f4, .string x.f5, .bool x.f6, .int .i64 x.f7, .int .i64 x.f8, v9, v10, v11, .string x.f12], rfl, rfl, ⟨[.string x.f2], [.int .i64 x.f3, .int .i64 x.f4, .string x.f5, .bool x.f6, .int .i64 x.f7, .int .i64 x.f8, v9, v10, v11, .string x.f12], rfl, rfl, ⟨[.int .i64 x.f3], [.int .i64 x.f4, .string x.f5, .bool x.f6, .int .i64 x.f7, .int .i64 x.f8, v9, v10, v11, .string x.f12], rfl, rfl, ⟨[.int .i64 x.f4], [.string x.f5, .bool x.f6, .int .i64 x.f7, .int .i64 x.f8, v9, v10, v11, .string x.f12], rfl, rfl, ⟨[.string x.f5], [.bool x.f6, .int .i64 x.f7, .int .i64 x.f8, v9, v10, v11, .string x.f12], rfl, rfl, ⟨[.bool x.f6], [.int .i64 x.f7, .int .i64 x.f8, v9, v10, v11, .string x.f12], rfl, rfl, ⟨[.int .i64 x.f7], [.int .i64 x.f8, v9, v10, v11, .string x.f12], rfl, rfl, ⟨[.int .i64 x.f8], [v9, v10, v11, .string x.f12], rfl, rfl, ⟨[v9], [v10, v11, .string x.f12], rfl, ⟨v9, rfl, g9⟩, ⟨[v10], [v11, .string x.f12], rfl, ⟨v10, rfl, g10⟩, ⟨[v11], [.string x.f12], rfl, ⟨v11, rfl, g11⟩, rfl⟩⟩⟩⟩⟩⟩⟩⟩⟩⟩⟩⟩
def rd_T118 (xs : List S118) (i : Int) : S118 := xs.getD i.toNat z118
theorem at_T118 {w : World} {A : Option Addr} {n : Nat} {xs : List S118} (h : Kd.C k118 w A n xs) (i : Int) (h0 : 0 ≤ i) (h1 : i < n) : ∃ ad A9 c9 A10 c10 A11 c11, A = some ad ∧ w.cell? (ad.add (i.toNat * 13)) = some (.int .i64 (rd_T118 xs i).f0) ∧ w.cell? ⟨(ad.add (i.toNat * 13)).block, (ad.add (i.toNat * 13)).off + 1, none⟩ = some (.string (rd_T118 xs i).f1) ∧ w.cell? ⟨(ad.add (i.toNat * 13)).block, (ad.add (i.toNat * 13)).off + 2, none⟩ = some (.string (rd_T118 xs i).f2) ∧ w.cell? ⟨(ad.add (i.toNat * 13)).block, (ad.add (i.toNat * 13)).off + 3, none⟩ = some (.int .i64 (rd_T118 xs i).f3) ∧ w.cell? ⟨(ad.add (i.toNat * 13)).block, (ad.add (i.toNat * 13)).off + 4, none⟩ = some (.int .i64 (rd_T118 xs i).f4) ∧ w.cell? ⟨(ad.add (i.toNat * 13)).block, (ad.add (i.toNat * 13)).off + 5, none⟩ = some (.string (rd_T118 xs i).f5) ∧ w.cell? ⟨(ad.add (i.toNat * 13)).block, (ad.add (i.toNat * 13)).off + 6, none⟩ = some (.bool (rd_T118 xs i).f6) ∧ w.cell? ⟨(ad.add (i.toNat * 13)).block, (ad.add (i.toNat * 13)).off + 7, none⟩ = some (.int .i64 (rd_T118 xs i).f7) ∧ w.cell? ⟨(ad.add (i.toNat * 13)).block, (ad.add (i.toNat * 13)).off + 8, none⟩ = some (.int .i64 (rd_T118 xs i).f8) ∧ w.cell? ⟨(ad.add (i.toNat * 13)).block, (ad.add (i.toNat * 13)).off + 9, none⟩ = some (.slice A9 (rd_T118 xs i).f9.length c9) ∧ w.cell? ⟨(ad.add (i.toNat * 13)).block, (ad.add (i.toNat * 13)).off + 10, none⟩ = some (.slice A10 (rd_T118 xs i).f10.length c10) ∧ w.cell? ⟨(ad.add (i.toNat * 13)).block, (ad.add (i.toNat * 13)).off + 11, none⟩ = some (.slice A11 (rd_T118 xs i).f11.length c11) ∧ w.cell? ⟨(ad.add (i.toNat * 13)).block, (ad.add (i.toNat * 13)).off + 12, none⟩ = some (.string (rd_T118 xs i).f12) ∧ (rd_T118 xs i).f9.length ≤ c9 ∧ (Kd.int .i64).C w A9 (rd_T118 xs i).f9.length (rd_T118 xs i).f9 ∧ (rd_T118 xs i).f10.length ≤ c10 ∧ Kd.string.C w A10 (rd_T118 xs i).f10.length (rd_T118 xs i).f10 ∧ (rd_T118 xs i).f11.length ≤ c11 ∧ Kd.string.C w A11 (rd_T118 xs i).f11.length (rd_T118 xs i).f11 := by
  obtain ⟨ad, c, e, _, hK, hc0⟩ := Kd.C_get h z118 i h0 h1
  have hc : ∀ j u, c[j]? = some u → w.cell? (ad.add (i.toNat * 13 + j)) = some u := hc0
  obtain ⟨A9, c9, A10, c10, A11, c11, rfl, l9, g9, l10, g10, l11, g11⟩ := k118_open hK
  exact ⟨ad, A9, c9, A10, c10, A11, c11, e, hc 0 _ rfl, by rw [← add_field _ _ 1 (by omega)]; exact hc 1 _ rfl, by rw [← add_field _ _ 2 (by omega)]; exact hc 2 _ rfl, by rw [← add_field _ _ 3 (by omega)]; exact hc 3 _ rfl, by rw [← add_field _ _ 4 (by omega)]; exact hc 4 _ rfl, by rw [← add_field _ _ 5 (by omega)]; exact hc 5 _ rfl, by rw [← add_field _ _ 6 (by omega)]; exact hc 6 _ rfl, by rw [← add_field _ _ 7 (by omega)]; exact hc 7 _ rfl, by rw [← add_field _ _ 8 (by omega)]; exact hc 8 _ rfl, by rw [← add_field _ _ 9 (by omega)]; exact hc 9 _ rfl, by rw [← add_field _ _ 10 (by omega)]; exact hc 10 _ rfl, by rw [← add_field _ _ 11 (by omega)]; exact hc 11 _ rfl, by rw [← add_field _ _ 12 (by omega)]; exact hc 12 _ rfl, l9, g9, l10, g10, l11, g11⟩

/-! #### struct type 222 -/
structure S222 where
  f0 : Int
  f1 : Int
def z222 : S222 := ⟨(0 : Int), (0 : Int)⟩
def k222 : Kd S222 := Kd.iso (Kd.pair (Kd.int .i64) (Kd.int .i64)) (fun x : S222 => (x.f0, x.f1))
theorem k222_open {w : World} {x : S222} {cs : List Value} (h : k222.K w x cs) : cs = [.int .i64 x.f0, .int .i64 x.f1] := by
  obtain ⟨_, _, rfl, rfl, rfl⟩ := h
  exact rfl
theorem k222_openM {w : World} {base : Nat} {ok : Nat → Prop} {x : S222} {cs : List Value} (h : k222.M w base ok x cs) : cs = [.int .i64 x.f0, .int .i64 x.f1] := by
  obtain ⟨_, _, rfl, rfl, rfl⟩ := h
  exact rfl
theorem k222_mk (w : World) (x : S222)  : k222.K w x [.int .i64 x.f0, .int .i64 x.f1] := ⟨[.int .i64 x.f0], [.int .i64 x.f1], rfl, rfl, rfl⟩
theorem k222_mkM (w : World) (base : Nat) (ok : Nat → Prop) (x : S222)  : k222.M w base ok x [.int .i64 x.f0, .int .i64 x.f1] := ⟨[.int .i64 x.f0], [.int .i64 x.f1], rfl, rfl, rfl⟩
def rd_T222 (xs : List S222) (i : Int) : S222 := xs.getD i.toNat z222
theorem at_T222 {w : World} {A : Option Addr} {n : Nat} {xs : List S222} (h : Kd.C k222 w A n xs) (i : Int) (h0 : 0 ≤ i) (h1 : i < n) : ∃ ad , A = some ad ∧ w.cell? (ad.add (i.toNat * 2)) = some (.int .i64 (rd_T222 xs i).f0) ∧ w.cell? ⟨(ad.add (i.toNat * 2)).block, (ad.add (i.toNat * 2)).off + 1, none⟩ = some (.int .i64 (rd_T222 xs i).f1) := by
  obtain ⟨ad, c, e, _, hK, hc0⟩ := Kd.C_get h z222 i h0 h1
  have hc : ∀ j u, c[j]? = some u → w.cell? (ad.add (i.toNat * 2 + j)) = some u := hc0
  obtain rfl := k222_open hK
  exact ⟨ad, e, hc 0 _ rfl, by rw [← add_field _ _ 1 (by omega)]; exact hc 1 _ rfl⟩

def rd_L39 (xs : List (List S222)) (i : Int) : (List S222) := xs.getD i.toNat ([] : List S222)
theorem at_L39 {w : World} {A : Option Addr} {n : Nat} {xs : List (List S222)} (h : Kd.C (Kd.slice 222 k222) w A n xs) (i : Int) (h0 : 0 ≤ i) (h1 : i < n) : ∃ ad A0 c0, A = some ad ∧ w.cell? (ad.add i.toNat) = some (.slice A0 (rd_L39 xs i).length c0) ∧ (rd_L39 xs i).length ≤ c0 ∧ k222.C w A0 (rd_L39 xs i).length (rd_L39 xs i) := by
  obtain ⟨ad, c, e, _, hK, hc0⟩ := Kd.C_get h ([] : List S222) i h0 h1
  have hc : ∀ j u, c[j]? = some u → w.cell? (ad.add (i.toNat * 1 + j)) = some u := hc0
  obtain ⟨A0, c0, rfl, l0, g0⟩ := hK
  exact ⟨ad, A0, c0, e, by have hq := hc 0 _ rfl; rwa [Nat.mul_one, Nat.add_zero] at hq, l0, g0⟩

/-! #### struct type 198 -/
structure S198 where
  f0 : ByteArray
  f1 : Int
  f2 : Int
  f3 : Int
  f4 : Int
  f5 : (List S222)
  f6 : ByteArray
def z198 : S198 := ⟨(⟨#[]⟩ : ByteArray), (0 : Int), (0 : Int), (0 : Int), (0 : Int), ([] : List S222), (⟨#[]⟩ : ByteArray)⟩
def k198 : Kd S198 := Kd.iso (Kd.pair Kd.string (Kd.pair (Kd.int .i64) (Kd.pair (Kd.int .i64) (Kd.pair (Kd.int .i64) (Kd.pair (Kd.int .i64) (Kd.pair (Kd.slice 222 k222) Kd.string)))))) (fun x : S198 => (x.f0, x.f1, x.f2, x.f3, x.f4, x.f5, x.f6))
theorem k198_open {w : World} {x : S198} {cs : List Value} (h : k198.K w x cs) : ∃ A5 c5, cs = [.string x.f0, .int .i64 x.f1, .int .i64 x.f2, .int .i64 x.f3, .int .i64 x.f4, .slice A5 x.f5.length c5, .string x.f6] ∧ x.f5.length ≤ c5 ∧ k222.C w A5 x.f5.length x.f5 := by
  obtain ⟨_, _, rfl, rfl, ⟨_, _, rfl, rfl, ⟨_, _, rfl, rfl, ⟨_, _, rfl, rfl, ⟨_, _, rfl, rfl, ⟨_, _, rfl, ⟨A5, c5, rfl, l5, g5⟩, rfl⟩⟩⟩⟩⟩⟩ := h
  exact ⟨A5, c5, rfl, l5, g5⟩
theorem k198_openM {w : World} {base : Nat} {ok : Nat → Prop} {x : S198} {cs : List Value} (h : k198.M w base ok x cs) : ∃ v5, cs = [.string x.f0, .int .i64 x.f1, .int .i64 x.f2, .int .i64 x.f3, .int .i64 x.f4, v5, .string x.f6] ∧ k222.R 222 w base ok v5 x.f5 := by
  obtain ⟨_, _, rfl, rfl, ⟨_, _, rfl, rfl, ⟨_, _, rfl, rfl, ⟨_, _, rfl, rfl, ⟨_, _, rfl, rfl, ⟨_, _, rfl, ⟨v5, rfl, g5⟩, rfl⟩⟩⟩⟩⟩⟩ := h
  exact ⟨v5, rfl, g5⟩
theorem k198_mk (w : World) (x : S198) {A5 : Option Addr} {c5 : Nat} (l5 : x.f5.length ≤ c5) (g5 : k222.C w A5 x.f5.length x.f5) : k198.K w x [.string x.f0, .int .i64 x.f1, .int .i64 x.f2, .int .i64 x.f3, .int .i64 x.f4, .slice A5 x.f5.length c5, .string x.f6] := ⟨[.string x.f0], [.int .i64 x.f1, .int .i64 x.f2, .int .i64 x.f3, .int .i64 x.f4, .slice A5 x.f5.length c5, .string x.f6], rfl, rfl, ⟨[.int .i64 x.f1], [.int .i64 x.f2, .int .i64 x.f3, .int .i64 x.f4, .slice A5 x.f5.length c5, .string x.f6], rfl, rfl, ⟨[.int .i64 x.f2], [.int .i64 x.f3, .int .i64 x.f4, .slice A5 x.f5.length c5, .string x.f6], rfl, rfl, ⟨[.int .i64 x.f3], [.int .i64 x.f4, .slice A5 x.f5.length c5, .string x.f6], rfl, rfl, ⟨[.int .i64 x.f4], [.slice A5 x.f5.length c5, .string x.f6], rfl, rfl, ⟨[.slice A5 x.f5.length c5], [.string x.f6], rfl, ⟨A5, c5, rfl, l5, g5⟩, rfl⟩⟩⟩⟩⟩⟩
theorem k198_mkM (w : World) (base : Nat) (ok : Nat → Prop) (x : S198) {v5 : Value} (g5 : k222.R 222 w base ok v5 x.f5) : k198.M w base ok x [.string x.f0, .int .i64 x.f1, .int .i64 x.f2, .int .i64 x.f3, .int .i64 x.f4, v5, .string x.f6] := ⟨[.string x.f0], [.int .i64 x.f1, .int .i64 x.f2, .int .i64 x.f3, .int .i64 x.f4, v5, .string x.f6], rfl, rfl, ⟨[.int .i64 x.f1], [.int .i64 x.f2, .int .i64 x.f3, .int .i64 x.f4, v5, .string x.f6], rfl, rfl, ⟨[.int .i64 x.f2], [.int .i64 x.f3, .int .i64 x.f4, v5, .string x.f6], rfl, rfl, ⟨[.int .i64 x.f3], [.int .i64 x.f4, v5, .string x.f6], rfl, rfl, ⟨[.int .i64 x.f4], [v5, .string x.f6], rfl, rfl, ⟨[v5], [.string x.f6], rfl, ⟨v5, rfl, g5⟩, rfl⟩⟩⟩⟩⟩⟩
def rd_T198 (xs : List S198) (i : Int) : S198 := xs.getD i.toNat z198
theorem at_T198 {w : World} {A : Option Addr} {n : Nat} {xs : List S198} (h : Kd.C k198 w A n xs) (i : Int) (h0 : 0 ≤ i) (h1 : i < n) : ∃ ad A5 c5, A = some ad ∧ w.cell? (ad.add (i.toNat * 7)) = some (.string (rd_T198 xs i).f0) ∧ w.cell? ⟨(ad.add (i.toNat * 7)).block, (ad.add (i.toNat * 7)).off + 1, none⟩ = some (.int .i64 (rd_T198 xs i).f1) ∧ w.cell? ⟨(ad.add (i.toNat * 7)).block, (ad.add (i.toNat * 7)).off + 2, none⟩ = some (.int .i64 (rd_T198 xs i).f2) ∧ w.cell? ⟨(ad.add (i.toNat * 7)).block, (ad.add (i.toNat * 7)).off + 3, none⟩ = some (.int .i64 (rd_T198 xs i).f3) ∧ w.cell? ⟨(ad.add (i.toNat * 7)).block, (ad.add (i.toNat * 7)).off + 4, none⟩ = some (.int .i64 (rd_T198 xs i).f4) ∧ w.cell? ⟨(ad.add (i.toNat * 7)).block, (ad.add (i.toNat * 7)).off + 5, none⟩ = some (.slice A5 (rd_T198 xs i).f5.length c5) ∧ w.cell? ⟨(ad.add (i.toNat * 7)).block, (ad.add (i.toNat * 7)).off + 6, none⟩ = some (.string (rd_T198 xs i).f6) ∧ (rd_T198 xs i).f5.length ≤ c5 ∧ k222.C w A5 (rd_T198 xs i).f5.length (rd_T198 xs i).f5 := by
  obtain ⟨ad, c, e, _, hK, hc0⟩ := Kd.C_get h z198 i h0 h1
  have hc : ∀ j u, c[j]? = some u → w.cell? (ad.add (i.toNat * 7 + j)) = some u := hc0
  obtain ⟨A5, c5, rfl, l5, g5⟩ := k198_open hK
  exact ⟨ad, A5, c5, e, hc 0 _ rfl, by rw [← add_field _ _ 1 (by omega)]; exact hc 1 _ rfl, by rw [← add_field _ _ 2 (by omega)]; exact hc 2 _ rfl, by rw [← add_field _ _ 3 (by omega)]; exact hc 3 _ rfl, by rw [← add_field _ _ 4 (by omega)]; exact hc 4 _ rfl, by rw [← add_field _ _ 5 (by omega)]; exact hc 5 _ rfl, by rw [← add_field _ _ 6 (by omega)]; exact hc 6 _ rfl, l5, g5⟩

/-! #### struct type 200 -/
structure S200 where
  f0 : ByteArray
  f1 : ByteArray
def z200 : S200 := ⟨(⟨#[]⟩ : ByteArray), (⟨#[]⟩ : ByteArray)⟩
def k200 : Kd S200 := Kd.iso (Kd.pair Kd.string Kd.string) (fun x : S200 => (x.f0, x.f1))
theorem k200_open {w : World} {x : S200} {cs : List Value} (h : k200.K w x cs) : cs = [.string x.f0, .string x.f1] := by
  obtain ⟨_, _, rfl, rfl, rfl⟩ := h
  exact rfl
theorem k200_openM {w : World} {base : Nat} {ok : Nat → Prop} {x : S200} {cs : List Value} (h : k200.M w base ok x cs) : cs = [.string x.f0, .string x.f1] := by
  obtain ⟨_, _, rfl, rfl, rfl⟩ := h
  exact rfl
theorem k200_mk (w : World) (x : S200)  : k200.K w x [.string x.f0, .string x.f1] := ⟨[.string x.f0], [.string x.f1], rfl, rfl, rfl⟩
theorem k200_mkM (w : World) (base : Nat) (ok : Nat → Prop) (x : S200)  : k200.M w base ok x [.string x.f0, .string x.f1] := ⟨[.string x.f0], [.string x.f1], rfl, rfl, rfl⟩
def rd_T200 (xs : List S200) (i : Int) : S200 := xs.getD i.toNat z200
theorem at_T200 {w : World} {A : Option Addr} {n : Nat} {xs : List S200} (h : Kd.C k200 w A n xs) (i : Int) (h0 : 0 ≤ i) (h1 : i < n) : ∃ ad , A = some ad ∧ w.cell? (ad.add (i.toNat * 2)) = some (.string (rd_T200 xs i).f0) ∧ w.cell? ⟨(ad.add (i.toNat * 2)).block, (ad.add (i.toNat * 2)).off + 1, none⟩ = some (.string (rd_T200 xs i).f1) := by
  obtain ⟨ad, c, e, _, hK, hc0⟩ := Kd.C_get h z200 i h0 h1
  have hc : ∀ j u, c[j]? = some u → w.cell? (ad.add (i.toNat * 2 + j)) = some u := hc0
  obtain rfl := k200_open hK
  exact ⟨ad, e, hc 0 _ rfl, by rw [← add_field _ _ 1 (by omega)]; exact hc 1 _ rfl⟩

def rd_L42 (xs : List (List S118)) (i : Int) : (List S118) := xs.getD i.toNat ([] : List S118)
theorem at_L42 {w : World} {A : Option Addr} {n : Nat} {xs : List (List S118)} (h : Kd.C (Kd.slice 118 k118) w A n xs) (i : Int) (h0 : 0 ≤ i) (h1 : i < n) : ∃ ad A0 c0, A = some ad ∧ w.cell? (ad.add i.toNat) = some (.slice A0 (rd_L42 xs i).length c0) ∧ (rd_L42 xs i).length ≤ c0 ∧ k118.C w A0 (rd_L42 xs i).length (rd_L42 xs i) := by
  obtain ⟨ad, c, e, _, hK, hc0⟩ := Kd.C_get h ([] : List S118) i h0 h1
  have hc : ∀ j u, c[j]? = some u → w.cell? (ad.add (i.toNat * 1 + j)) = some u := hc0
  obtain ⟨A0, c0, rfl, l0, g0⟩ := hK
  exact ⟨ad, A0, c0, e, by have hq := hc 0 _ rfl; rwa [Nat.mul_one, Nat.add_zero] at hq, l0, g0⟩

def rd_L43 (xs : List (List S198)) (i : Int) : (List S198) := xs.getD i.toNat ([] : List S198)
theorem at_L43 {w : World} {A : Option Addr} {n : Nat} {xs : List (List S198)} (h : Kd.C (Kd.slice 198 k198) w A n xs) (i : Int) (h0 : 0 ≤ i) (h1 : i < n) : ∃ ad A0 c0, A = some ad ∧ w.cell? (ad.add i.toNat) = some (.slice A0 (rd_L43 xs i).length c0) ∧ (rd_L43 xs i).length ≤ c0 ∧ k198.C w A0 (rd_L43 xs i).length (rd_L43 xs i) := by
  obtain ⟨ad, c, e, _, hK, hc0⟩ := Kd.C_get h ([] : List S198) i h0 h1
  have hc : ∀ j u, c[j]? = some u → w.cell? (ad.add (i.toNat * 1 + j)) = some u := hc0
  obtain ⟨A0, c0, rfl, l0, g0⟩ := hK
  exact ⟨ad, A0, c0, e, by have hq := hc 0 _ rfl; rwa [Nat.mul_one, Nat.add_zero] at hq, l0, g0⟩

def rd_L44 (xs : List (List S200)) (i : Int) : (List S200) := xs.getD i.toNat ([] : List S200)
theorem at_L44 {w : World} {A : Option Addr} {n : Nat} {xs : List (List S200)} (h : Kd.C (Kd.slice 200 k200) w A n xs) (i : Int) (h0 : 0 ≤ i) (h1 : i < n) : ∃ ad A0 c0, A = some ad ∧ w.cell? (ad.add i.toNat) = some (.slice A0 (rd_L44 xs i).length c0) ∧ (rd_L44 xs i).length ≤ c0 ∧ k200.C w A0 (rd_L44 xs i).length (rd_L44 xs i) := by
  obtain ⟨ad, c, e, _, hK, hc0⟩ := Kd.C_get h ([] : List S200) i h0 h1
  have hc : ∀ j u, c[j]? = some u → w.cell? (ad.add (i.toNat * 1 + j)) = some u := hc0
  obtain ⟨A0, c0, rfl, l0, g0⟩ := hK
  exact ⟨ad, A0, c0, e, by have hq := hc 0 _ rfl; rwa [Nat.mul_one, Nat.add_zero] at hq, l0, g0⟩

/-! #### struct type 47 -/
structure S47 where
  f0 : (List S118)
  f1 : (List S198)
  f2 : (List S200)
def z47 : S47 := ⟨([] : List S118), ([] : List S198), ([] : List S200)⟩
def k47 : Kd S47 := Kd.iso (Kd.pair (Kd.slice 118 k118) (Kd.pair (Kd.slice 198 k198) (Kd.slice 200 k200))) (fun x : S47 => (x.f0, x.f1, x.f2))
theorem k47_open {w : World} {x : S47} {cs : List Value} (h : k47.K w x cs) : ∃ A0 c0 A1 c1 A2 c2, cs = [.slice A0 x.f0.length c0, .slice A1 x.f1.length c1, .slice A2 x.f2.length c2] ∧ x.f0.length ≤ c0 ∧ k118.C w A0 x.f0.length x.f0 ∧ x.f1.length ≤ c1 ∧ k198.C w A1 x.f1.length x.f1 ∧ x.f2.length ≤ c2 ∧ k200.C w A2 x.f2.length x.f2 := by
  obtain ⟨_, _, rfl, ⟨A0, c0, rfl, l0, g0⟩, ⟨_, _, rfl, ⟨A1, c1, rfl, l1, g1⟩, ⟨A2, c2, rfl, l2, g2⟩⟩⟩ := h
  exact ⟨A0, c0, A1, c1, A2, c2, rfl, l0, g0, l1, g1, l2, g2⟩
theorem k47_openM {w : World} {base : Nat} {ok : Nat → Prop} {x : S47} {cs : List Value} (h : k47.M w base ok x cs) : ∃ v0 v1 v2, cs = [v0, v1, v2] ∧ k118.R 118 w base ok v0 x.f0 ∧ k198.R 198 w base ok v1 x.f1 ∧ k200.R 200 w base ok v2 x.f2 := by
  obtain ⟨_, _, rfl, ⟨v0, rfl, g0⟩, ⟨_, _, rfl, ⟨v1, rfl, g1⟩, ⟨v2, rfl, g2⟩⟩⟩ := h
  exact ⟨v0, v1, v2, rfl, g0, g1, g2⟩
theorem k47_mk (w : World) (x : S47) {A0 : Option Addr} {c0 : Nat} (l0 : x.f0.length ≤ c0) (g0 : k118.C w A0 x.f0.length x.f0) {A1 : Option Addr} {c1 : Nat} (l1 : x.f1.length ≤ c1) (g1 : k198.C w A1 x.f1.length x.f1) {A2 : Option Addr} {c2 : Nat} (l2 : x.f2.length ≤ c2) (g2 : k200.C w A2 x.f2.length x.f2) : k47.K w x [.slice A0 x.f0.length c0, .slice A1 x.f1.length c1, .slice A2 x.f2.length c2] := ⟨[.slice A0 x.f0.length c0], [.slice A1 x.f1.length c1, .slice A2 x.f2.length c2], rfl, ⟨A0, c0, rfl, l0, g0⟩, ⟨[.slice A1 x.f1.length c1], [.slice A2 x.f2.length c2], rfl, ⟨A1, c1, rfl, l1, g1⟩, ⟨A2, c2, rfl, l2, g2⟩⟩⟩
theorem k47_mkM (w : World) (base : Nat) (ok : Nat → Prop) (x : S47) {v0 : Value} (g0 : k118.R 118 w base ok v0 x.f0) {v1 : Value} (g1 : k198.R 198 w base ok v1 x.f1) {v2 : Value} (g2 : k200.R 200 w base ok v2 x.f2) : k47.M w base ok x [v0, v1, v2] := ⟨[v0], [v1, v2], rfl, ⟨v0, rfl, g0⟩, ⟨[v1], [v2], rfl, ⟨v1, rfl, g1⟩, ⟨v2, rfl, g2⟩⟩⟩
def rd_T47 (xs : List S47) (i : Int) : S47 := xs.getD i.toNat z47
theorem at_T47 {w : World} {A : Option Addr} {n : Nat} {xs : List S47} (h : Kd.C k47 w A n xs) (i : Int) (h0 : 0 ≤ i) (h1 : i < n) : ∃ ad A0 c0 A1 c1 A2 c2, A = some ad ∧ w.cell? (ad.add (i.toNat * 3)) = some (.slice A0 (rd_T47 xs i).f0.length c0) ∧ w.cell? ⟨(ad.add (i.toNat * 3)).block, (ad.add (i.toNat * 3)).off + 1, none⟩ = some (.slice A1 (rd_T47 xs i).f1.length c1) ∧ w.cell? ⟨(ad.add (i.toNat * 3)).block, (ad.add (i.toNat * 3)).off + 2, none⟩ = some (.slice A2 (rd_T47 xs i).f2.length c2) ∧ (rd_T47 xs i).f0.length ≤ c0 ∧ k118.C w A0 (rd_T47 xs i).f0.length (rd_T47 xs i).f0 ∧ (rd_T47 xs i).f1.length ≤ c1 ∧ k198.C w A1 (rd_T47 xs i).f1.length (rd_T47 xs i).f1 ∧ (rd_T47 xs i).f2.length ≤ c2 ∧ k200.C w A2 (rd_T47 xs i).f2.length (rd_T47 xs i).f2 := by
  obtain ⟨ad, c, e, _, hK, hc0⟩ := Kd.C_get h z47 i h0 h1
  have hc : ∀ j u, c[j]? = some u → w.cell? (ad.add (i.toNat * 3 + j)) = some u := hc0
  obtain ⟨A0, c0, A1, c1, A2, c2, rfl, l0, g0, l1, g1, l2, g2⟩ := k47_open hK
  exact ⟨ad, A0, c0, A1, c1, A2, c2, e, hc 0 _ rfl, by rw [← add_field _ _ 1 (by omega)]; exact hc 1 _ rfl, by rw [← add_field _ _ 2 (by omega)]; exact hc 2 _ rfl, l0, g0, l1, g1, l2, g2⟩

/-! #### struct type 163 -/
structure S163 where
  f0 : Int
  f1 : (List Int)
  f2 : Bool
  f3 : Bool
  f4 : Int
def z163 : S163 := ⟨(0 : Int), ([] : List Int), false, false, (0 : Int)⟩
def k163 : Kd S163 := Kd.iso (Kd.pair (Kd.int .i64) (Kd.pair (Kd.slice 3 (Kd.int .i64)) (Kd.pair Kd.bool (Kd.pair Kd.bool (Kd.int .i64))))) (fun x : S163 => (x.f0, x.f1, x.f2, x.f3, x.f4))
theorem k163_open {w : World} {x : S163} {cs : List Value} (h : k163.K w x cs) : ∃ A1 c1, cs = [.int .i64 x.f0, .slice A1 x.f1.length c1, .bool x.f2, .bool x.f3, .int .i64 x.f4] ∧ x.f1.length ≤ c1 ∧ (Kd.int .i64).C w A1 x.f1.length x.f1 := by
  obtain ⟨_, _, rfl, rfl, ⟨_, _, rfl, ⟨A1, c1, rfl, l1, g1⟩, ⟨_, _, rfl, rfl, ⟨_, _, rfl, rfl, rfl⟩⟩⟩⟩ := h
  exact ⟨A1, c1, rfl, l1, g1⟩
theorem k163_openM {w : World} {base : Nat} {ok : Nat → Prop} {x : S163} {cs : List Value} (h : k163.M w base ok x cs) : ∃ v1, cs = [.int .i64 x.f0, v1, .bool x.f2, .bool x.f3, .int .i64 x.f4] ∧ (Kd.int .i64).R 3 w base ok v1 x.f1 := by
  obtain ⟨_, _, rfl, rfl, ⟨_, _, rfl, ⟨v1, rfl, g1⟩, ⟨_, _, rfl, rfl, ⟨_, _, rfl, rfl, rfl⟩⟩⟩⟩ := h
  exact ⟨v1, rfl, g1⟩
theorem k163_mk (w : World) (x : S163) {A1 : Option Addr} {c1 : Nat} (l1 : x.f1.length ≤ c1) (g1 : (Kd.int .i64).C w A1 x.f1.length x.f1) : k163.K w x [.int .i64 x.f0, .slice A1 x.f1.length c1, .bool x.f2, .bool x.f3, .int .i64 x.f4] := ⟨[.int .i64 x.f0], [.slice A1 x.f1.length c1, .bool x.f2, .bool x.f3, .int .i64 x.f4], rfl, rfl, ⟨[.slice A1 x.f1.length c1], [.bool x.f2, .bool x.f3, .int .i64 x.f4], rfl, ⟨A1, c1, rfl, l1, g1⟩, ⟨[.bool x.f2], [.bool x.f3, .int .i64 x.f4], rfl, rfl, ⟨[.bool x.f3], [.int .i64 x.f4], rfl, rfl, rfl⟩⟩⟩⟩
theorem k163_mkM (w : World) (base : Nat) (ok : Nat → Prop) (x : S163) {v1 : Value} (g1 : (Kd.int .i64).R 3 w base ok v1 x.f1) : k163.M w base ok x [.int .i64 x.f0, v1, .bool x.f2, .bool x.f3, .int .i64 x.f4] := ⟨[.int .i64 x.f0], [v1, .bool x.f2, .bool x.f3, .int .i64 x.f4], rfl, rfl, ⟨[v1], [.bool x.f2, .bool x.f3, .int .i64 x.f4], rfl, ⟨v1, rfl, g1⟩, ⟨[.bool x.f2], [.bool x.f3, .int .i64 x.f4], rfl, rfl, ⟨[.bool x.f3], [.int .i64 x.f4], rfl, rfl, rfl⟩⟩⟩⟩
def rd_T163 (xs : List S163) (i : Int) : S163 := xs.getD i.toNat z163
theorem at_T163 {w : World} {A : Option Addr} {n : Nat} {xs : List S163} (h : Kd.C k163 w A n xs) (i : Int) (h0 : 0 ≤ i) (h1 : i < n) : ∃ ad A1 c1, A = some ad ∧ w.cell? (ad.add (i.toNat * 5)) = some (.int .i64 (rd_T163 xs i).f0) ∧ w.cell? ⟨(ad.add (i.toNat * 5)).block, (ad.add (i.toNat * 5)).off + 1, none⟩ = some (.slice A1 (rd_T163 xs i).f1.length c1) ∧ w.cell? ⟨(ad.add (i.toNat * 5)).block, (ad.add (i.toNat * 5)).off + 2, none⟩ = some (.bool (rd_T163 xs i).f2) ∧ w.cell? ⟨(ad.add (i.toNat * 5)).block, (ad.add (i.toNat * 5)).off + 3, none⟩ = some (.bool (rd_T163 xs i).f3) ∧ w.cell? ⟨(ad.add (i.toNat * 5)).block, (ad.add (i.toNat * 5)).off + 4, none⟩ = some (.int .i64 (rd_T163 xs i).f4) ∧ (rd_T163 xs i).f1.length ≤ c1 ∧ (Kd.int .i64).C w A1 (rd_T163 xs i).f1.length (rd_T163 xs i).f1 := by
  obtain ⟨ad, c, e, _, hK, hc0⟩ := Kd.C_get h z163 i h0 h1
  have hc : ∀ j u, c[j]? = some u → w.cell? (ad.add (i.toNat * 5 + j)) = some u := hc0
  obtain ⟨A1, c1, rfl, l1, g1⟩ := k163_open hK
  exact ⟨ad, A1, c1, e, hc 0 _ rfl, by rw [← add_field _ _ 1 (by omega)]; exact hc 1 _ rfl, by rw [← add_field _ _ 2 (by omega)]; exact hc 2 _ rfl, by rw [← add_field _ _ 3 (by omega)]; exact hc 3 _ rfl, by rw [← add_field _ _ 4 (by omega)]; exact hc 4 _ rfl, l1, g1⟩

/-! #### struct type 165 -/
structure S165 where
  f0 : Int
  f1 : (List Int)
  f2 : S163
def z165 : S165 := ⟨(0 : Int), ([] : List Int), z163⟩
def k165 : Kd S165 := Kd.iso (Kd.pair (Kd.int .i64) (Kd.pair (Kd.slice 3 (Kd.int .i64)) k163)) (fun x : S165 => (x.f0, x.f1, x.f2))
theorem k165_open {w : World} {x : S165} {cs : List Value} (h : k165.K w x cs) : ∃ A1 c1 A3 c3, cs = [.int .i64 x.f0, .slice A1 x.f1.length c1, .int .i64 x.f2.f0, .slice A3 x.f2.f1.length c3, .bool x.f2.f2, .bool x.f2.f3, .int .i64 x.f2.f4] ∧ x.f1.length ≤ c1 ∧ (Kd.int .i64).C w A1 x.f1.length x.f1 ∧ x.f2.f1.length ≤ c3 ∧ (Kd.int .i64).C w A3 x.f2.f1.length x.f2.f1 := by
  obtain ⟨_, _, rfl, rfl, ⟨_, _, rfl, ⟨A1, c1, rfl, l1, g1⟩, s2⟩⟩ := h
  obtain ⟨A3, c3, rfl, l3, g3⟩ := k163_open s2
  exact ⟨A1, c1, A3, c3, rfl, l1, g1, l3, g3⟩
theorem k165_openM {w : World} {base : Nat} {ok : Nat → Prop} {x : S165} {cs : List Value} (h : k165.M w base ok x cs) : ∃ v1 v3, cs = [.int .i64 x.f0, v1, .int .i64 x.f2.f0, v3, .bool x.f2.f2, .bool x.f2.f3, .int .i64 x.f2.f4] ∧ (Kd.int .i64).R 3 w base ok v1 x.f1 ∧ (Kd.int .i64).R 3 w base ok v3 x.f2.f1 := by
  obtain ⟨_, _, rfl, rfl, ⟨_, _, rfl, ⟨v1, rfl, g1⟩, s2⟩⟩ := h
  obtain ⟨v3, rfl, g3⟩ := k163_openM s2
  exact ⟨v1, v3, rfl, g1, g3⟩
theorem k165_mk (w : World) (x : S165) {A1 : Option Addr} {c1 : Nat} (l1 : x.f1.length ≤ c1) (g1 : (Kd.int .i64).C w A1 x.f1.length x.f1) {A3 : Option Addr} {c3 : Nat} (l3 : x.f2.f1.length ≤ c3) (g3 : (Kd.int .i64).C w A3 x.f2.f1.length x.f2.f1) : k165.K w x [.int .i64 x.f0, .slice A1 x.f1.length c1, .int .i64 x.f2.f0, .slice A3 x.f2.f1.length c3, .bool x.f2.f2, .bool x.f2.f3, .int .i64 x.f2.f4] := ⟨[.int .i64 x.f0], [.slice A1 x.f1.length c1, .int .i64 x.f2.f0, .slice A3 x.f2.f1.length c3, .bool x.f2.f2, .bool x.f2.f3, .int .i64 x.f2.f4], rfl, rfl, ⟨[.slice A1 x.f1.length c1], [.int .i64 x.f2.f0, .slice A3 x.f2.f1.length c3, .bool x.f2.f2, .bool x.f2.f3, .int .i64 x.f2.f4], rfl, ⟨A1, c1, rfl, l1, g1⟩, (k163_mk w x.f2 l3 g3)⟩⟩
theorem k165_mkM (w : World) (base : Nat) (ok : Nat → Prop) (x : S165) {v1 : Value} (g1 : (Kd.int .i64).R 3 w base ok v1 x.f1) {v3 : Value} (g3 : (Kd.int .i64).R 3 w base ok v3 x.f2.f1) : k165.M w base ok x [.int .i64 x.f0, v1, .int .i64 x.f2.f0, v3, .bool x.f2.f2, .bool x.f2.f3, .int .i64 x.f2.f4] := ⟨[.int .i64 x.f0], [v1, .int .i64 x.f2.f0, v3, .bool x.f2.f2, .bool x.f2.f3, .int .i64 x.f2.f4], rfl, rfl, ⟨[v1], [.int .i64 x.f2.f0, v3, .bool x.f2.f2, .bool x.f2.f3, .int .i64 x.f2.f4], rfl, ⟨v1, rfl, g1⟩, (k163_mkM w base ok x.f2 g3)⟩⟩
def rd_T165 (xs : List S165) (i : Int) : S165 := xs.getD i.toNat z165
theorem at_T165 {w : World} {A : Option Addr} {n : Nat} {xs : List S165} (h : Kd.C k165 w A n xs) (i : Int) (h0 : 0 ≤ i) (h1 : i < n) : ∃ ad A1 c1 A3 c3, A = some ad ∧ w.cell? (ad.add (i.toNat * 7)) = some (.int .i64 (rd_T165 xs i).f0) ∧ w.cell? ⟨(ad.add (i.toNat * 7)).block, (ad.add (i.toNat * 7)).off + 1, none⟩ = some (.slice A1 (rd_T165 xs i).f1.length c1) ∧ w.cell? ⟨(ad.add (i.toNat * 7)).block, (ad.add (i.toNat * 7)).off + 2, none⟩ = some (.int .i64 (rd_T165 xs i).f2.f0) ∧ w.cell? ⟨(ad.add (i.toNat * 7)).block, (ad.add (i.toNat * 7)).off + 3, none⟩ = some (.slice A3 (rd_T165 xs i).f2.f1.length c3) ∧ w.cell? ⟨(ad.add (i.toNat * 7)).block, (ad.add (i.toNat * 7)).off + 4, none⟩ = some (.bool (rd_T165 xs i).f2.f2) ∧ w.cell? ⟨(ad.add (i.toNat * 7)).block, (ad.add (i.toNat * 7)).off + 5, none⟩ = some (.bool (rd_T165 xs i).f2.f3) ∧ w.cell? ⟨(ad.add (i.toNat * 7)).block, (ad.add (i.toNat * 7)).off + 6, none⟩ = some (.int .i64 (rd_T165 xs i).f2.f4) ∧ (rd_T165 xs i).f1.length ≤ c1 ∧ (Kd.int .i64).C w A1 (rd_T165 xs i).f1.length (rd_T165 xs i).f1 ∧ (rd_T165 xs i).f2.f1.length ≤ c3 ∧ (Kd.int .i64).C w A3 (rd_T165 xs i).f2.f1.length (rd_T165 xs i).f2.f1 := by
  obtain ⟨ad, c, e, _, hK, hc0⟩ := Kd.C_get h z165 i h0 h1
  have hc : ∀ j u, c[j]? = some u → w.cell? (ad.add (i.toNat * 7 + j)) = some u := hc0
  obtain ⟨A1, c1, A3, c3, rfl, l1, g1, l3, g3⟩ := k165_open hK
  exact ⟨ad, A1, c1, A3, c3, e, hc 0 _ rfl, by rw [← add_field _ _ 1 (by omega)]; exact hc 1 _ rfl, by rw [← add_field _ _ 2 (by omega)]; exact hc 2 _ rfl, by rw [← add_field _ _ 3 (by omega)]; exact hc 3 _ rfl, by rw [← add_field _ _ 4 (by omega)]; exact hc 4 _ rfl, by rw [← add_field _ _ 5 (by omega)]; exact hc 5 _ rfl, by rw [← add_field _ _ 6 (by omega)]; exact hc 6 _ rfl, l1, g1, l3, g3⟩

/-! #### struct type 167 -/
structure S167 where
  f0 : ByteArray
  f1 : ByteArray
  f2 : Int
def z167 : S167 := ⟨(⟨#[]⟩ : ByteArray), (⟨#[]⟩ : ByteArray), (0 : Int)⟩
def k167 : Kd S167 := Kd.iso (Kd.pair Kd.string (Kd.pair Kd.string (Kd.int .i64))) (fun x : S167 => (x.f0, x.f1, x.f2))
theorem k167_open {w : World} {x : S167} {cs : List Value} (h : k167.K w x cs) : cs = [.string x.f0, .string x.f1, .int .i64 x.f2] := by
  obtain ⟨_, _, rfl, rfl, ⟨_, _, rfl, rfl, rfl⟩⟩ := h
  exact rfl
theorem k167_openM {w : World} {base : Nat} {ok : Nat → Prop} {x : S167} {cs : List Value} (h : k167.M w base ok x cs) : cs = [.string x.f0, .string x.f1, .int .i64 x.f2] := by
  obtain ⟨_, _, rfl, rfl, ⟨_, _, rfl, rfl, rfl⟩⟩ := h
  exact rfl
theorem k167_mk (w : World) (x : S167)  : k167.K w x [.string x.f0, .string x.f1, .int .i64 x.f2] := ⟨[.string x.f0], [.string x.f1, .int .i64 x.f2], rfl, rfl, ⟨[.string x.f1], [.int .i64 x.f2], rfl, rfl, rfl⟩⟩
theorem k167_mkM (w : World) (base : Nat) (ok : Nat → Prop) (x : S167)  : k167.M w base ok x [.string x.f0, .string x.f1, .int .i64 x.f2] := ⟨[.string x.f0], [.string x.f1, .int .i64 x.f2], rfl, rfl, ⟨[.string x.f1], [.int .i64 x.f2], rfl, rfl, rfl⟩⟩
def rd_T167 (xs : List S167) (i : Int) : S167 := xs.getD i.toNat z167
theorem at_T167 {w : World} {A : Option Addr} {n : Nat} {xs : List S167} (h : Kd.C k167 w A n xs) (i : Int) (h0 : 0 ≤ i) (h1 : i < n) : ∃ ad , A = some ad ∧ w.cell? (ad.add (i.toNat * 3)) = some (.string (rd_T167 xs i).f0) ∧ w.cell? ⟨(ad.add (i.toNat * 3)).block, (ad.add (i.toNat * 3)).off + 1, none⟩ = some (.string (rd_T167 xs i).f1) ∧ w.cell? ⟨(ad.add (i.toNat * 3)).block, (ad.add (i.toNat * 3)).off + 2, none⟩ = some (.int .i64 (rd_T167 xs i).f2) := by
  obtain ⟨ad, c, e, _, hK, hc0⟩ := Kd.C_get h z167 i h0 h1
  have hc : ∀ j u, c[j]? = some u → w.cell? (ad.add (i.toNat * 3 + j)) = some u := hc0
  obtain rfl := k167_open hK
  exact ⟨ad, e, hc 0 _ rfl, by rw [← add_field _ _ 1 (by omega)]; exact hc 1 _ rfl, by rw [← add_field _ _ 2 (by omega)]; exact hc 2 _ rfl⟩

def rd_L49 (xs : List (List S165)) (i : Int) : (List S165) := xs.getD i.toNat ([] : List S165)
theorem at_L49 {w : World} {A : Option Addr} {n : Nat} {xs : List (List S165)} (h : Kd.C (Kd.slice 165 k165) w A n xs) (i : Int) (h0 : 0 ≤ i) (h1 : i < n) : ∃ ad A0 c0, A = some ad ∧ w.cell? (ad.add i.toNat) = some (.slice A0 (rd_L49 xs i).length c0) ∧ (rd_L49 xs i).length ≤ c0 ∧ k165.C w A0 (rd_L49 xs i).length (rd_L49 xs i) := by
  obtain ⟨ad, c, e, _, hK, hc0⟩ := Kd.C_get h ([] : List S165) i h0 h1
  have hc : ∀ j u, c[j]? = some u → w.cell? (ad.add (i.toNat * 1 + j)) = some u := hc0
  obtain ⟨A0, c0, rfl, l0, g0⟩ := hK
  exact ⟨ad, A0, c0, e, by have hq := hc 0 _ rfl; rwa [Nat.mul_one, Nat.add_zero] at hq, l0, g0⟩

def rd_L50 (xs : List (List S167)) (i : Int) : (List S167) := xs.getD i.toNat ([] : List S167)
theorem at_L50 {w : World} {A : Option Addr} {n : Nat} {xs : List (List S167)} (h : Kd.C (Kd.slice 167 k167) w A n xs) (i : Int) (h0 : 0 ≤ i) (h1 : i < n) : ∃ ad A0 c0, A = some ad ∧ w.cell? (ad.add i.toNat) = some (.slice A0 (rd_L50 xs i).length c0) ∧ (rd_L50 xs i).length ≤ c0 ∧ k167.C w A0 (rd_L50 xs i).length (rd_L50 xs i) := by
  obtain ⟨ad, c, e, _, hK, hc0⟩ := Kd.C_get h ([] : List S167) i h0 h1
  have hc : ∀ j u, c[j]? = some u → w.cell? (ad.add (i.toNat * 1 + j)) = some u := hc0
  obtain ⟨A0, c0, rfl, l0, g0⟩ := hK
  exact ⟨ad, A0, c0, e, by have hq := hc 0 _ rfl; rwa [Nat.mul_one, Nat.add_zero] at hq, l0, g0⟩

/-! #### struct type 51 -/
structure S51 where
  f0 : S47
  f1 : (List S165)
  f2 : Int
  f3 : Int
  f4 : Int
  f5 : (List S167)
def z51 : S51 := ⟨z47, ([] : List S165), (0 : Int), (0 : Int), (0 : Int), ([] : List S167)⟩
def k51 : Kd S51 := Kd.iso (Kd.pair k47 (Kd.pair (Kd.slice 165 k165) (Kd.pair (Kd.int .i64) (Kd.pair (Kd.int .i64) (Kd.pair (Kd.int .i64) (Kd.slice 167 k167)))))) (fun x : S51 => (x.f0, x.f1, x.f2, x.f3, x.f4, x.f5))
theorem k51_open {w : World} {x : S51} {cs : List Value} (h : k51.K w x cs) : ∃ A0 c0 A1 c1 A2 c2 A3 c3 A7 c7, cs = [.slice A0 x.f0.f0.length c0, .slice A1 x.f0.f1.length c1, .slice A2 x.f0.f2.length c2, .slice A3 x.f1.length c3, .int .i64 x.f2, .int .i64 x.f3, .int .i64 x.f4, .slice A7 x.f5.length c7] ∧ x.f0.f0.length ≤ c0 ∧ k118.C w A0 x.f0.f0.length x.f0.f0 ∧ x.f0.f1.length ≤ c1 ∧ k198.C w A1 x.f0.f1.length x.f0.f1 ∧ x.f0.f2.length ≤ c2 ∧ k200.C w A2 x.f0.f2.length x.f0.f2 ∧ x.f1.length ≤ c3 ∧ k165.C w A3 x.f1.length x.f1 ∧ x.f5.length ≤ c7 ∧ k167.C w A7 x.f5.length x.f5 := by
  obtain ⟨_, _, rfl, s0, ⟨_, _, rfl, ⟨A3, c3, rfl, l3, g3⟩, ⟨_, _, rfl, rfl, ⟨_, _, rfl, rfl, ⟨_, _, rfl, rfl, ⟨A7, c7, rfl, l7, g7⟩⟩⟩⟩⟩⟩ := h
  obtain ⟨A0, c0, A1, c1, A2, c2, rfl, l0, g0, l1, g1, l2, g2⟩ := k47_open s0
  exact ⟨A0, c0, A1, c1, A2, c2, A3, c3, A7, c7, rfl, l0, g0, l1, g1, l2, g2, l3, g3, l7, g7⟩
theorem k51_openM {w : World} {base : Nat} {ok : Nat → Prop} {x : S51} {cs : List Value} (h : k51.M w base ok x cs) : ∃ v0 v1 v2 v3 v7, cs = [v0, v1, v2, v3, .int .i64 x.f2, .int .i64 x.f3, .int .i64 x.f4, v7] ∧ k118.R 118 w base ok v0 x.f0.f0 ∧ k198.R 198 w base ok v1 x.f0.f1 ∧ k200.R 200 w base ok v2 x.f0.f2 ∧ k165.R 165 w base ok v3 x.f1 ∧ k167.R 167 w base ok v7 x.f5 := by
  obtain ⟨_, _, rfl, s0, ⟨_, _, rfl, ⟨v3, rfl, g3⟩, ⟨_, _, rfl, rfl, ⟨_, _, rfl, rfl, ⟨_, _, rfl, rfl, ⟨v7, rfl, g7⟩⟩⟩⟩⟩⟩ := h
  obtain ⟨v0, v1, v2, rfl, g0, g1, g2⟩ := k47_openM s0
  exact ⟨v0, v1, v2, v3, v7, rfl, g0, g1, g2, g3, g7⟩
theorem k51_mk (w : World) (x : S51) {A0 : Option Addr} {c0 : Nat} (l0 : x.f0.f0.length ≤ c0) (g0 : k118.C w A0 x.f0.f0.length x.f0.f0) {A1 : Option Addr} {c1 : Nat} (l1 : x.f0.f1.length ≤ c1) (g1 : k198.C w A1 x.f0.f1.length x.f0.f1) {A2 : Option Addr} {c2 : Nat} (l2 : x.f0.f2.length ≤ c2) (g2 : k200.C w A2 x.f0.f2.length x.f0.f2) {A3 : Option Addr} {c3 : Nat} (l3 : x.f1.length ≤ c3) (g3 : k165.C w A3 x.f1.length x.f1) {A7 : Option Addr} {c7 : Nat} (l7 : x.f5.length ≤ c7) (g7 : k167.C w A7 x.f5.length x.f5) : k51.K w x [.slice A0 x.f0.f0.length c0, .slice A1 x.f0.f1.length c1, .slice A2 x.f0.f2.length c2, .slice A3 x.f1.length c3, .int .i64 x.f2, .int .i64 x.f3, .int .i64 x.f4, .slice A7 x.f5.length c7] := ⟨[.slice A0 x.f0.f0.length c0, .slice A1 x.f0.f1.length c1, .slice A2 x.f0.f2.length c2], [.slice A3 x.f1.length c3, .int .i64 x.f2, .int .i64 x.f3, .int .i64 x.f4, .slice A7 x.f5.length c7], rfl, (k47_mk w x.f0 l0 g0 l1 g1 l2 g2), ⟨[.slice A3 x.f1.length c3], [.int .i64 x.f2, .int .i64 x.f3, .int .i64 x.f4, .slice A7 x.f5.length c7], rfl, ⟨A3, c3, rfl, l3, g3⟩, ⟨[.int .i64 x.f2], [.int .i64 x.f3, .int .i64 x.f4, .slice A7 x.f5.length c7], rfl, rfl, ⟨[.int .i64 x.f3], [.int .i64 x.f4, .slice A7 x.f5.length c7], rfl, rfl, ⟨[.int .i64 x.f4], [.slice A7 x.f5.length c7], rfl, rfl, ⟨A7, c7, rfl, l7, g7⟩⟩⟩⟩⟩⟩
theorem k51_mkM (w : World) (base : Nat) (ok : Nat → Prop) (x : S51) {v0 : Value} (g0 : k118.R 118 w base ok v0 x.f0.f0) {v1 : Value} (g1 : k198.R 198 w base ok v1 x.f0.f1) {v2 : Value} (g2 : k200.R 200 w base ok v2 x.f0.f2) {v3 : Value} (g3 : k165.R 165 w base ok v3 x.f1) {v7 : Value} (g7 : k167.R 167 w base ok v7 x.f5) : k51.M w base ok x [v0, v1, v2, v3, .int .i64 x.f2, .int .i64 x.f3, .int .i64 x.f4, v7] := ⟨[v0, v1, v2], [v3, .int .i64 x.f2, .int .i64 x.f3, .int .i64 x.f4, v7], rfl, (k47_mkM w base ok x.f0 g0 g1 g2), ⟨[v3], [.int .i64 x.f2, .int .i64 x.f3, .int .i64 x.f4, v7], rfl, ⟨v3, rfl, g3⟩, ⟨[.int .i64 x.f2], [.int .i64 x.f3, .int .i64 x.f4, v7], rfl, rfl, ⟨[.int .i64 x.f3], [.int .i64 x.f4, v7], rfl, rfl, ⟨[.int .i64 x.f4], [v7], rfl, rfl, ⟨v7, rfl, g7⟩⟩⟩⟩⟩⟩
def rd_T51 (xs : List S51) (i : Int) : S51 := xs.getD i.toNat z51
theorem at_T51 {w : World} {A : Option Addr} {n : Nat} {xs : List S51} (h : Kd.C k51 w A n xs) (i : Int) (h0 : 0 ≤ i) (h1 : i < n) : ∃ ad A0 c0 A1 c1 A2 c2 A3 c3 A7 c7, A = some ad ∧ w.cell? (ad.add (i.toNat * 8)) = some (.slice A0 (rd_T51 xs i).f0.f0.length c0) ∧ w.cell? ⟨(ad.add (i.toNat * 8)).block, (ad.add (i.toNat * 8)).off + 1, none⟩ = some (.slice A1 (rd_T51 xs i).f0.f1.length c1) ∧ w.cell? ⟨(ad.add (i.toNat * 8)).block, (ad.add (i.toNat * 8)).off + 2, none⟩ = some (.slice A2 (rd_T51 xs i).f0.f2.length c2) ∧ w.cell? ⟨(ad.add (i.toNat * 8)).block, (ad.add (i.toNat * 8)).off + 3, none⟩ = some (.slice A3 (rd_T51 xs i).f1.length c3) ∧ w.cell? ⟨(ad.add (i.toNat * 8)).block, (ad.add (i.toNat * 8)).off + 4, none⟩ = some (.int .i64 (rd_T51 xs i).f2) ∧ w.cell? ⟨(ad.add (i.toNat * 8)).block, (ad.add (i.toNat * 8)).off + 5, none⟩ = some (.int .i64 (rd_T51 xs i).f3) ∧ w.cell? ⟨(ad.add (i.toNat * 8)).block, (ad.add (i.toNat * 8)).off + 6, none⟩ = some (.int .i64 (rd_T51 xs i).f4) ∧ w.cell? ⟨(ad.add (i.toNat * 8)).block, (ad.add (i.toNat * 8)).off + 7, none⟩ = some (.slice A7 (rd_T51 xs i).f5.length c7) ∧ (rd_T51 xs i).f0.f0.length ≤ c0 ∧ k118.C w A0 (rd_T51 xs i).f0.f0.length (rd_T51 xs i).f0.f0 ∧ (rd_T51 xs i).f0.f1.length ≤ c1 ∧ k198.C w A1 (rd_T51 xs i).f0.f1.length (rd_T51 xs i).f0.f1 ∧ (rd_T51 xs i).f0.f2.length ≤ c2 ∧ k200.C w A2 (rd_T51 xs i).f0.f2.length (rd_T51 xs i).f0.f2 ∧ (rd_T51 xs i).f1.length ≤ c3 ∧ k165.C w A3 (rd_T51 xs i).f1.length (rd_T51 xs i).f1 ∧ (rd_T51 xs i).f5.length ≤ c7 ∧ k167.C w A7 (rd_T51 xs i).f5.length (rd_T51 xs i).f5 := by
  obtain ⟨ad, c, e, _, hK, hc0⟩ := Kd.C_get h z51 i h0 h1
  have hc : ∀ j u, c[j]? = some u → w.cell? (ad.add (i.toNat * 8 + j)) = some u := hc0
  obtain ⟨A0, c0, A1, c1, A2, c2, A3, c3, A7, c7, rfl, l0, g0, l1, g1, l2, g2, l3, g3, l7, g7⟩ := k51_open hK
  exact ⟨ad, A0, c0, A1, c1, A2, c2, A3, c3, A7, c7, e, hc 0 _ rfl, by rw [← add_field _ _ 1 (by omega)]; exact hc 1 _ rfl, by rw [← add_field _ _ 2 (by omega)]; exact hc 2 _ rfl, by rw [← add_field _ _ 3 (by omega)]; exact hc 3 _ rfl, by rw [← add_field _ _ 4 (by omega)]; exact hc 4 _ rfl, by rw [← add_field _ _ 5 (by omega)]; exact hc 5 _ rfl, by rw [← add_field _ _ 6 (by omega)]; exact hc 6 _ rfl, by rw [← add_field _ _ 7 (by omega)]; exact hc 7 _ rfl, l0, g0, l1, g1, l2, g2, l3, g3, l7, g7⟩

/-! #### struct type 169 -/
structure S169 where
  f0 : Int
  f1 : Int
  f2 : ByteArray
  f3 : Int
def z169 : S169 := ⟨(0 : Int), (0 : Int), (⟨#[]⟩ : ByteArray), (0 : Int)⟩
def k169 : Kd S169 := Kd.iso (Kd.pair (Kd.int .i64) (Kd.pair (Kd.int .i64) (Kd.pair Kd.string (Kd.int .i64)))) (fun x : S169 => (x.f0, x.f1, x.f2, x.f3))
theorem k169_open {w : World} {x : S169} {cs : List Value} (h : k169.K w x cs) : cs = [.int .i64 x.f0, .int .i64 x.f1, .string x.f2, .int .i64 x.f3] := by
  obtain ⟨_, _, rfl, rfl, ⟨_, _, rfl, rfl, ⟨_, _, rfl, rfl, rfl⟩⟩⟩ := h
  exact rfl
theorem k169_openM {w : World} {base : Nat} {ok : Nat → Prop} {x : S169} {cs : List Value} (h : k169.M w base ok x cs) : cs = [.int .i64 x.f0, .int .i64 x.f1, .string x.f2, .int .i64 x.f3] := by
  obtain ⟨_, _, rfl, rfl, ⟨_, _, rfl, rfl, ⟨_, _, rfl, rfl, rfl⟩⟩⟩ := h
  exact rfl
theorem k169_mk (w : World) (x : S169)  : k169.K w x [.int .i64 x.f0, .int .i64 x.f1, .string x.f2, .int .i64 x.f3] := ⟨[.int .i64 x.f0], [.int .i64 x.f1, .string x.f2, .int .i64 x.f3], rfl, rfl, ⟨[.int .i64 x.f1], [.string x.f2, .int .i64 x.f3], rfl, rfl, ⟨[.string x.f2], [.int .i64 x.f3], rfl, rfl, rfl⟩⟩⟩
theorem k169_mkM (w : World) (base : Nat) (ok : Nat → Prop) (x : S169)  : k169.M w base ok x [.int .i64 x.f0, .int .i64 x.f1, .string x.f2, .int .i64 x.f3] := ⟨[.int .i64 x.f0], [.int .i64 x.f1, .string x.f2, .int .i64 x.f3], rfl, rfl, ⟨[.int .i64 x.f1], [.string x.f2, .int .i64 x.f3], rfl, rfl, ⟨[.string x.f2], [.int .i64 x.f3], rfl, rfl, rfl⟩⟩⟩
def rd_T169 (xs : List S169) (i : Int) : S169 := xs.getD i.toNat z169
theorem at_T169 {w : World} {A : Option Addr} {n : Nat} {xs : List S169} (h : Kd.C k169 w A n xs) (i : Int) (h0 : 0 ≤ i) (h1 : i < n) : ∃ ad , A = some ad ∧ w.cell? (ad.add (i.toNat * 4)) = some (.int .i64 (rd_T169 xs i).f0) ∧ w.cell? ⟨(ad.add (i.toNat * 4)).block, (ad.add (i.toNat * 4)).off + 1, none⟩ = some (.int .i64 (rd_T169 xs i).f1) ∧ w.cell? ⟨(ad.add (i.toNat * 4)).block, (ad.add (i.toNat * 4)).off + 2, none⟩ = some (.string (rd_T169 xs i).f2) ∧ w.cell? ⟨(ad.add (i.toNat * 4)).block, (ad.add (i.toNat * 4)).off + 3, none⟩ = some (.int .i64 (rd_T169 xs i).f3) := by
  obtain ⟨ad, c, e, _, hK, hc0⟩ := Kd.C_get h z169 i h0 h1
  have hc : ∀ j u, c[j]? = some u → w.cell? (ad.add (i.toNat * 4 + j)) = some u := hc0
  obtain rfl := k169_open hK
  exact ⟨ad, e, hc 0 _ rfl, by rw [← add_field _ _ 1 (by omega)]; exact hc 1 _ rfl, by rw [← add_field _ _ 2 (by omega)]; exact hc 2 _ rfl, by rw [← add_field _ _ 3 (by omega)]; exact hc 3 _ rfl⟩

/-! #### struct type 76 -/
structure S76 where
  f0 : Int
  f1 : S74
def z76 : S76 := ⟨(0 : Int), z74⟩
def k76 : Kd S76 := Kd.iso (Kd.pair (Kd.int .i64) k74) (fun x : S76 => (x.f0, x.f1))
theorem k76_open {w : World} {x : S76} {cs : List Value} (h : k76.K w x cs) : ∃ A7 c7, cs = [.int .i64 x.f0, .string x.f1.f0, .int .i64 x.f1.f1, .int .i64 x.f1.f2, .int .i64 x.f1.f3, .int .i64 x.f1.f4, .int .i64 x.f1.f5, .slice A7 x.f1.f6.length c7, .string x.f1.f7] ∧ x.f1.f6.length ≤ c7 ∧ k154.C w A7 x.f1.f6.length x.f1.f6 := by
  obtain ⟨_, _, rfl, rfl, s1⟩ := h
  obtain ⟨A7, c7, rfl, l7, g7⟩ := k74_open s1
  exact ⟨A7, c7, rfl, l7, g7⟩
theorem k76_openM {w : World} {base : Nat} {ok : Nat → Prop} {x : S76} {cs : List Value} (h : k76.M w base ok x cs) : ∃ v7, cs = [.int .i64 x.f0, .string x.f1.f0, .int .i64 x.f1.f1, .int .i64 x.f1.f2, .int .i64 x.f1.f3, .int .i64 x.f1.f4, .int .i64 x.f1.f5, v7, .string x.f1.f7] ∧ k154.R 154 w base ok v7 x.f1.f6 := by
  obtain ⟨_, _, rfl, rfl, s1⟩ := h
  obtain ⟨v7, rfl, g7⟩ := k74_openM s1
  exact ⟨v7, rfl, g7⟩
theorem k76_mk (w : World) (x : S76) {A7 : Option Addr} {c7 : Nat} (l7 : x.f1.f6.length ≤ c7) (g7 : k154.C w A7 x.f1.f6.length x.f1.f6) : k76.K w x [.int .i64 x.f0, .string x.f1.f0, .int .i64 x.f1.f1, .int .i64 x.f1.f2, .int .i64 x.f1.f3, .int .i64 x.f1.f4, .int .i64 x.f1.f5, .slice A7 x.f1.f6.length c7, .string x.f1.f7] := ⟨[.int .i64 x.f0], [.string x.f1.f0, .int .i64 x.f1.f1, .int .i64 x.f1.f2, .int .i64 x.f1.f3, .int .i64 x.f1.f4, .int .i64 x.f1.f5, .slice A7 x.f1.f6.length c7, .string x.f1.f7], rfl, rfl, (k74_mk w x.f1 l7 g7)⟩
theorem k76_mkM (w : World) (base : Nat) (ok : Nat → Prop) (x : S76) {v7 : Value} (g7 : k154.R 154 w base ok v7 x.f1.f6) : k76.M w base ok x [.int .i64 x.f0, .string x.f1.f0, .int .i64 x.f1.f1, .int .i64 x.f1.f2, .int .i64 x.f1.f3, .int .i64 x.f1.f4, .int .i64 x.f1.f5, v7, .string x.f1.f7] := ⟨[.int .i64 x.f0], [.string x.f1.f0, .int .i64 x.f1.f1, .int .i64 x.f1.f2, .int .i64 x.f1.f3, .int .i64 x.f1.f4, .int .i64 x.f1.f5, v7, .string x.f1.f7], rfl, rfl, (k74_mkM w base ok x.f1 g7)⟩
def rd_T76 (xs : List S76) (i : Int) : S76 := xs.getD i.toNat z76
theorem at_T76 {w : World} {A : Option Addr} {n : Nat} {xs : List S76} (h : Kd.C k76 w A n xs) (i : Int) (h0 : 0 ≤ i) (h1 : i < n) : ∃ ad A7 c7, A = some ad ∧ w.cell? (ad.add (i.toNat * 9)) = some (.int .i64 (rd_T76 xs i).f0) ∧ w.cell? ⟨(ad.add (i.toNat * 9)).block, (ad.add (i.toNat * 9)).off + 1, none⟩ = some (.string (rd_T76 xs i).f1.f0) ∧ w.cell? ⟨(ad.add (i.toNat * 9)).block, (ad.add (i.toNat * 9)).off + 2, none⟩ = some (.int .i64 (rd_T76 xs i).f1.f1) ∧ w.cell? ⟨(ad.add (i.toNat * 9)).block, (ad.add (i.toNat * 9)).off + 3, none⟩ = some (.int .i64 (rd_T76 xs i).f1.f2) ∧ w.cell? ⟨(ad.add (i.toNat * 9)).block, (ad.add (i.toNat * 9)).off + 4, none⟩ = some (.int .i64 (rd_T76 xs i).f1.f3) ∧ w.cell? ⟨(ad.add (i.toNat * 9)).block, (ad.add (i.toNat * 9)).off + 5, none⟩ = some (.int .i64 (rd_T76 xs i).f1.f4) ∧ w.cell? ⟨(ad.add (i.toNat * 9)).block, (ad.add (i.toNat * 9)).off + 6, none⟩ = some (.int .i64 (rd_T76 xs i).f1.f5) ∧ w.cell? ⟨(ad.add (i.toNat * 9)).block, (ad.add (i.toNat * 9)).off + 7, none⟩ = some (.slice A7 (rd_T76 xs i).f1.f6.length c7) ∧ w.cell? ⟨(ad.add (i.toNat * 9)).block, (ad.add (i.toNat * 9)).off + 8, none⟩ = some (.string (rd_T76 xs i).f1.f7) ∧ (rd_T76 xs i).f1.f6.length ≤ c7 ∧ k154.C w A7 (rd_T76 xs i).f1.f6.length (rd_T76 xs i).f1.f6 := by
  obtain ⟨ad, c, e, _, hK, hc0⟩ := Kd.C_get h z76 i h0 h1
  have hc : ∀ j u, c[j]? = some u → w.cell? (ad.add (i.toNat * 9 + j)) = some u := hc0
  obtain ⟨A7, c7, rfl, l7, g7⟩ := k76_open hK
  exact ⟨ad, A7, c7, e, hc 0 _ rfl, by rw [← add_field _ _ 1 (by omega)]; exact hc 1 _ rfl, by rw [← add_field _ _ 2 (by omega)]; exact hc 2 _ rfl, by rw [← add_field _ _ 3 (by omega)]; exact hc 3 _ rfl, by rw [← add_field _ _ 4 (by omega)]; exact hc 4 _ rfl, by rw [← add_field _ _ 5 (by omega)]; exact hc 5 _ rfl, by rw [← add_field _ _ 6 (by omega)]; exact hc 6 _ rfl, by rw [← add_field _ _ 7 (by omega)]; exact hc 7 _ rfl, by rw [← add_field _ _ 8 (by omega)]; exact hc 8 _ rfl, l7, g7⟩

def rd_L54 (xs : List (List S169)) (i : Int) : (List S169) := xs.getD i.toNat ([] : List S169)
theorem at_L54 {w : World} {A : Option Addr} {n : Nat} {xs : List (List S169)} (h : Kd.C (Kd.slice 169 k169) w A n xs) (i : Int) (h0 : 0 ≤ i) (h1 : i < n) : ∃ ad A0 c0, A = some ad ∧ w.cell? (ad.add i.toNat) = some (.slice A0 (rd_L54 xs i).length c0) ∧ (rd_L54 xs i).length ≤ c0 ∧ k169.C w A0 (rd_L54 xs i).length (rd_L54 xs i) := by
  obtain ⟨ad, c, e, _, hK, hc0⟩ := Kd.C_get h ([] : List S169) i h0 h1
  have hc : ∀ j u, c[j]? = some u → w.cell? (ad.add (i.toNat * 1 + j)) = some u := hc0
  obtain ⟨A0, c0, rfl, l0, g0⟩ := hK
  exact ⟨ad, A0, c0, e, by have hq := hc 0 _ rfl; rwa [Nat.mul_one, Nat.add_zero] at hq, l0, g0⟩

def rd_L55 (xs : List (List S76)) (i : Int) : (List S76) := xs.getD i.toNat ([] : List S76)
theorem at_L55 {w : World} {A : Option Addr} {n : Nat} {xs : List (List S76)} (h : Kd.C (Kd.slice 76 k76) w A n xs) (i : Int) (h0 : 0 ≤ i) (h1 : i < n) : ∃ ad A0 c0, A = some ad ∧ w.cell? (ad.add i.toNat) = some (.slice A0 (rd_L55 xs i).length c0) ∧ (rd_L55 xs i).length ≤ c0 ∧ k76.C w A0 (rd_L55 xs i).length (rd_L55 xs i) := by
  obtain ⟨ad, c, e, _, hK, hc0⟩ := Kd.C_get h ([] : List S76) i h0 h1
  have hc : ∀ j u, c[j]? = some u → w.cell? (ad.add (i.toNat * 1 + j)) = some u := hc0
  obtain ⟨A0, c0, rfl, l0, g0⟩ := hK
  exact ⟨ad, A0, c0, e, by have hq := hc 0 _ rfl; rwa [Nat.mul_one, Nat.add_zero] at hq, l0, g0⟩

/-! #### struct type 55 -/
structure S55 where
  f0 : ByteArray
  f1 : Int
  f2 : (List S169)
  f3 : (List S76)
  f4 : (List Int)
def z55 : S55 := ⟨(⟨#[]⟩ : ByteArray), (0 : Int), ([] : List S169), ([] : List S76), ([] : List Int)⟩
def k55 : Kd S55 := Kd.iso (Kd.pair Kd.string (Kd.pair (Kd.int .i64) (Kd.pair (Kd.slice 169 k169) (Kd.pair (Kd.slice 76 k76) (Kd.slice 3 (Kd.int .i64)))))) (fun x : S55 => (x.f0, x.f1, x.f2, x.f3, x.f4))
theorem k55_open {w : World} {x : S55} {cs : List Value} (h : k55.K w x cs) : ∃ A2 c2 A3 c3 A4 c4, cs = [.string x.f0, .int .i64 x.f1, .slice A2 x.f2.length c2, .slice A3 x.f3.length c3, .slice A4 x.f4.length c4] ∧ x.f2.length ≤ c2 ∧ k169.C w A2 x.f2.length x.f2 ∧ x.f3.length ≤ c3 ∧ k76.C w A3 x.f3.length x.f3 ∧ x.f4.length ≤ c4 ∧ (Kd.int .i64).C w A4 x.f4.length x.f4 := by
  obtain ⟨_, _, rfl, rfl, ⟨_, _, rfl, rfl, ⟨_, _, rfl, ⟨A2, c2, rfl, l2, g2⟩, ⟨_, _, rfl, ⟨A3, c3, rfl, l3, g3⟩, ⟨A4, c4, rfl, l4, g4⟩⟩⟩⟩⟩ := h
  exact ⟨A2, c2, A3, c3, A4, c4, rfl, l2, g2, l3, g3, l4, g4⟩
theorem k55_openM {w : World} {base : Nat} {ok : Nat → Prop} {x : S55} {cs : List Value} (h : k55.M w base ok x cs) : ∃ v2 v3 v4, cs = [.string x.f0, .int .i64 x.f1, v2, v3, v4] ∧ k169.R 169 w base ok v2 x.f2 ∧ k76.R 76 w base ok v3 x.f3 ∧ (Kd.int .i64).R 3 w base ok v4 x.f4 := by
  obtain ⟨_, _, rfl, rfl, ⟨_, _, rfl, rfl, ⟨_, _, rfl, ⟨v2, rfl, g2⟩, ⟨_, _, rfl, ⟨v3, rfl, g3⟩, ⟨v4, rfl, g4⟩⟩⟩⟩⟩ := h
  exact ⟨v2, v3, v4, rfl, g2, g3, g4⟩
theorem k55_mk (w : World) (x : S55) {A2 : Option Addr} {c2 : Nat} (l2 : x.f2.length ≤ c2) (g2 : k169.C w A2 x.f2.length x.f2) {A3 : Option Addr} {c3 : Nat} (l3 : x.f3.length ≤ c3) (g3 : k76.C w A3 x.f3.length x.f3) {A4 : Option Addr} {c4 : Nat} (l4 : x.f4.length ≤ c4) (g4 : (Kd.int .i64).C w A4 x.f4.length x.f4) : k55.K w x [.string x.f0, .int .i64 x.f1, .slice A2 x.f2.length c2, .slice A3 x.f3.length c3, .slice A4 x.f4.length c4] := ⟨[.string x.f0], [.int .i64 x.f1, .slice A2 x.f2.length c2, .slice A3 x.f3.length c3, .slice A4 x.f4.length c4], rfl, rfl, ⟨[.int .i64 x.f1], [.slice A2 x.f2.length c2, .slice A3 x.f3.length c3, .slice A4 x.f4.length c4], rfl, rfl, ⟨[.slice A2 x.f2.length c2], [.slice A3 x.f3.length c3, .slice A4 x.f4.length c4], rfl, ⟨A2, c2, rfl, l2, g2⟩, ⟨[.slice A3 x.f3.length c3], [.slice A4 x.f4.length c4], rfl, ⟨A3, c3, rfl, l3, g3⟩, ⟨A4, c4, rfl, l4, g4⟩⟩⟩⟩⟩
theorem k55_mkM (w : World) (base : Nat) (ok : Nat → Prop) (x : S55) {v2 : Value} (g2 : k169.R 169 w base ok v2 x.f2) {v3 : Value} (g3 : k76.R 76 w base ok v3 x.f3) {v4 : Value} (g4 : (Kd.int .i64).R 3 w base ok v4 x.f4) : k55.M w base ok x [.string x.f0, .int .i64 x.f1, v2, v3, v4] := ⟨[.string x.f0], [.int .i64 x.f1, v2, v3, v4], rfl, rfl, ⟨[.int .i64 x.f1], [v2, v3, v4], rfl, rfl, ⟨[v2], [v3, v4], rfl, ⟨v2, rfl, g2⟩, ⟨[v3], [v4], rfl, ⟨v3, rfl, g3⟩, ⟨v4, rfl, g4⟩⟩⟩⟩⟩
def rd_T55 (xs : List S55) (i : Int) : S55 := xs.getD i.toNat z55
theorem at_T55 {w : World} {A : Option Addr} {n : Nat} {xs : List S55} (h : Kd.C k55 w A n xs) (i : Int) (h0 : 0 ≤ i) (h1 : i < n) : ∃ ad A2 c2 A3 c3 A4 c4, A = some ad ∧ w.cell? (ad.add (i.toNat * 5)) = some (.string (rd_T55 xs i).f0) ∧ w.cell? ⟨(ad.add (i.toNat * 5)).block, (ad.add (i.toNat * 5)).off + 1, none⟩ = some (.int .i64 (rd_T55 xs i).f1) ∧ w.cell? ⟨(ad.add (i.toNat * 5)).block, (ad.add (i.toNat * 5)).off + 2, none⟩ = some (.slice A2 (rd_T55 xs i).f2.length c2) ∧ w.cell? ⟨(ad.add (i.toNat * 5)).block, (ad.add (i.toNat * 5)).off + 3, none⟩ = some (.slice A3 (rd_T55 xs i).f3.length c3) ∧ w.cell? ⟨(ad.add (i.toNat * 5)).block, (ad.add (i.toNat * 5)).off + 4, none⟩ = some (.slice A4 (rd_T55 xs i).f4.length c4) ∧ (rd_T55 xs i).f2.length ≤ c2 ∧ k169.C w A2 (rd_T55 xs i).f2.length (rd_T55 xs i).f2 ∧ (rd_T55 xs i).f3.length ≤ c3 ∧ k76.C w A3 (rd_T55 xs i).f3.length (rd_T55 xs i).f3 ∧ (rd_T55 xs i).f4.length ≤ c4 ∧ (Kd.int .i64).C w A4 (rd_T55 xs i).f4.length (rd_T55 xs i).f4 := by
  obtain ⟨ad, c, e, _, hK, hc0⟩ := Kd.C_get h z55 i h0 h1
  have hc : ∀ j u, c[j]? = some u → w.cell? (ad.add (i.toNat * 5 + j)) = some u := hc0
  obtain ⟨A2, c2, A3, c3, A4, c4, rfl, l2, g2, l3, g3, l4, g4⟩ := k55_open hK
  exact ⟨ad, A2, c2, A3, c3, A4, c4, e, hc 0 _ rfl, by rw [← add_field _ _ 1 (by omega)]; exact hc 1 _ rfl, by rw [← add_field _ _ 2 (by omega)]; exact hc 2 _ rfl, by rw [← add_field _ _ 3 (by omega)]; exact hc 3 _ rfl, by rw [← add_field _ _ 4 (by omega)]; exact hc 4 _ rfl, l2, g2, l3, g3, l4, g4⟩

/-! #### struct type 120 -/
structure S120 where
  f0 : Bool
  f1 : ByteArray
def z120 : S120 := ⟨false, (⟨#[]⟩ : ByteArray)⟩
def k120 : Kd S120 := Kd.iso (Kd.pair Kd.bool Kd.string) (fun x : S120 => (x.f0, x.f1))
theorem k120_open {w : World} {x : S120} {cs : List Value} (h : k120.K w x cs) : cs = [.bool x.f0, .string x.f1] := by
  obtain ⟨_, _, rfl, rfl, rfl⟩ := h
  exact rfl
theorem k120_openM {w : World} {base : Nat} {ok : Nat → Prop} {x : S120} {cs : List Value} (h : k120.M w base ok x cs) : cs = [.bool x.f0, .string x.f1] := by
  obtain ⟨_, _, rfl, rfl, rfl⟩ := h
  exact rfl
theorem k120_mk (w : World) (x : S120)  : k120.K w x [.bool x.f0, .string x.f1] := ⟨[.bool x.f0], [.string x.f1], rfl, rfl, rfl⟩
theorem k120_mkM (w : World) (base : Nat) (ok : Nat → Prop) (x : S120)  : k120.M w base ok x [.bool x.f0, .string x.f1] := ⟨[.bool x.f0], [.string x.f1], rfl, rfl, rfl⟩
def rd_T120 (xs : List S120) (i : Int) : S120 := xs.getD i.toNat z120
theorem at_T120 {w : World} {A : Option Addr} {n : Nat} {xs : List S120} (h : Kd.C k120 w A n xs) (i : Int) (h0 : 0 ≤ i) (h1 : i < n) : ∃ ad , A = some ad ∧ w.cell? (ad.add (i.toNat * 2)) = some (.bool (rd_T120 xs i).f0) ∧ w.cell? ⟨(ad.add (i.toNat * 2)).block, (ad.add (i.toNat * 2)).off + 1, none⟩ = some (.string (rd_T120 xs i).f1) := by
  obtain ⟨ad, c, e, _, hK, hc0⟩ := Kd.C_get h z120 i h0 h1
  have hc : ∀ j u, c[j]? = some u → w.cell? (ad.add (i.toNat * 2 + j)) = some u := hc0
  obtain rfl := k120_open hK
  exact ⟨ad, e, hc 0 _ rfl, by rw [← add_field _ _ 1 (by omega)]; exact hc 1 _ rfl⟩

/-! #### struct type 122 -/
structure S122 where
  f0 : Int
  f1 : ByteArray
def z122 : S122 := ⟨(0 : Int), (⟨#[]⟩ : ByteArray)⟩
def k122 : Kd S122 := Kd.iso (Kd.pair (Kd.int .i64) Kd.string) (fun x : S122 => (x.f0, x.f1))
theorem k122_open {w : World} {x : S122} {cs : List Value} (h : k122.K w x cs) : cs = [.int .i64 x.f0, .string x.f1] := by
  obtain ⟨_, _, rfl, rfl, rfl⟩ := h
  exact rfl
theorem k122_openM {w : World} {base : Nat} {ok : Nat → Prop} {x : S122} {cs : List Value} (h : k122.M w base ok x cs) : cs = [.int .i64 x.f0, .string x.f1] := by
  obtain ⟨_, _, rfl, rfl, rfl⟩ := h
  exact rfl
theorem k122_mk (w : World) (x : S122)  : k122.K w x [.int .i64 x.f0, .string x.f1] := ⟨[.int .i64 x.f0], [.string x.f1], rfl, rfl, rfl⟩
theorem k122_mkM (w : World) (base : Nat) (ok : Nat → Prop) (x : S122)  : k122.M w base ok x [.int .i64 x.f0, .string x.f1] := ⟨[.int .i64 x.f0], [.string x.f1], rfl, rfl, rfl⟩
def rd_T122 (xs : List S122) (i : Int) : S122 := xs.getD i.toNat z122
theorem at_T122 {w : World} {A : Option Addr} {n : Nat} {xs : List S122} (h : Kd.C k122 w A n xs) (i : Int) (h0 : 0 ≤ i) (h1 : i < n) : ∃ ad , A = some ad ∧ w.cell? (ad.add (i.toNat * 2)) = some (.int .i64 (rd_T122 xs i).f0) ∧ w.cell? ⟨(ad.add (i.toNat * 2)).block, (ad.add (i.toNat * 2)).off + 1, none⟩ = some (.string (rd_T122 xs i).f1) := by
  obtain ⟨ad, c, e, _, hK, hc0⟩ := Kd.C_get h z122 i h0 h1
  have hc : ∀ j u, c[j]? = some u → w.cell? (ad.add (i.toNat * 2 + j)) = some u := hc0
  obtain rfl := k122_open hK
  exact ⟨ad, e, hc 0 _ rfl, by rw [← add_field _ _ 1 (by omega)]; exact hc 1 _ rfl⟩

def rd_L59 (xs : List (List S120)) (i : Int) : (List S120) := xs.getD i.toNat ([] : List S120)
theorem at_L59 {w : World} {A : Option Addr} {n : Nat} {xs : List (List S120)} (h : Kd.C (Kd.slice 120 k120) w A n xs) (i : Int) (h0 : 0 ≤ i) (h1 : i < n) : ∃ ad A0 c0, A = some ad ∧ w.cell? (ad.add i.toNat) = some (.slice A0 (rd_L59 xs i).length c0) ∧ (rd_L59 xs i).length ≤ c0 ∧ k120.C w A0 (rd_L59 xs i).length (rd_L59 xs i) := by
  obtain ⟨ad, c, e, _, hK, hc0⟩ := Kd.C_get h ([] : List S120) i h0 h1
  have hc : ∀ j u, c[j]? = some u → w.cell? (ad.add (i.toNat * 1 + j)) = some u := hc0
  obtain ⟨A0, c0, rfl, l0, g0⟩ := hK
  exact ⟨ad, A0, c0, e, by have hq := hc 0 _ rfl; rwa [Nat.mul_one, Nat.add_zero] at hq, l0, g0⟩

def rd_L60 (xs : List (List S122)) (i : Int) : (List S122) := xs.getD i.toNat ([] : List S122)
theorem at_L60 {w : World} {A : Option Addr} {n : Nat} {xs : List (List S122)} (h : Kd.C (Kd.slice 122 k122) w A n xs) (i : Int) (h0 : 0 ≤ i) (h1 : i < n) : ∃ ad A0 c0, A = some ad ∧ w.cell? (ad.add i.toNat) = some (.slice A0 (rd_L60 xs i).length c0) ∧ (rd_L60 xs i).length ≤ c0 ∧ k122.C w A0 (rd_L60 xs i).length (rd_L60 xs i) := by
  obtain ⟨ad, c, e, _, hK, hc0⟩ := Kd.C_get h ([] : List S122) i h0 h1
  have hc : ∀ j u, c[j]? = some u → w.cell? (ad.add (i.toNat * 1 + j)) = some u := hc0
  obtain ⟨A0, c0, rfl, l0, g0⟩ := hK
  exact ⟨ad, A0, c0, e, by have hq := hc 0 _ rfl; rwa [Nat.mul_one, Nat.add_zero] at hq, l0, g0⟩

/-! #### struct type 59 -/
structure S59 where
  f0 : S51
  f1 : S55
  f2 : (List S118)
  f3 : (List S120)
  f4 : (List Int)
  f5 : (List S122)
  f6 : (List ByteArray)
  f7 : (List ByteArray)
def z59 : S59 := ⟨z51, z55, ([] : List S118), ([] : List S120), ([] : List Int), ([] : List S122), ([] : List ByteArray), ([] : List ByteArray)⟩
def k59 : Kd S59 := Kd.iso (Kd.pair k51 (Kd.pair k55 (Kd.pair (Kd.slice 118 k118) (Kd.pair (Kd.slice 120 k120) (Kd.pair (Kd.slice 3 (Kd.int .i64)) (Kd.pair (Kd.slice 122 k122) (Kd.pair (Kd.slice 9 Kd.string) (Kd.slice 9 Kd.string)))))))) (fun x : S59 => (x.f0, x.f1, x.f2, x.f3, x.f4, x.f5, x.f6, x.f7))
theorem k59_open {w : World} {x : S59} {cs : List Value} (h : k59.K w x cs) : ∃ A0 c0 A1 c1 A2 c2 A3 c3 A7 c7 A10 c10 A11 c11 A12 c12 A13 c13 A14 c14 A15 c15 A16 c16 A17 c17 A18 c18, cs = [.slice A0 x.f0.f0.f0.length c0, .slice A1 x.f0.f0.f1.length c1, .slice A2 x.f0.f0.f2.length c2, .slice A3 x.f0.f1.length c3, .int .i64 x.f0.f2, .int .i64 x.f0.f3, .int .i64 x.f0.f4, .slice A7 x.f0.f5.length c7, .string x.f1.f0, .int .i64 x.f1.f1, .slice A10 x.f1.f2.length c10, .slice A11 x.f1.f3.length c11, .slice A12 x.f1.f4.length c12, .slice A13 x.f2.length c13, .slice A14 x.f3.length c14, .slice A15 x.f4.length c15, .slice A16 x.f5.length c16, .slice A17 x.f6.length c17, .slice A18 x.f7.length c18] ∧ x.f0.f0.f0.length ≤ c0 ∧ k118.C w A0 x.f0.f0.f0.length x.f0.f0.f0 ∧ x.f0.f0.f1.length ≤ c1 ∧ k198.C w A1 x.f0.f0.f1.length x.f0.f0.f1 ∧ x.f0.f0.f2.length ≤ c2 ∧ k200.C w A2 x.f0.f0.f2.length x.f0.f0.f2 ∧ x.f0.f1.length ≤ c3 ∧ k165.C w A3 x.f0.f1.length x.f0.f1 ∧ x.f0.f5.length ≤ c7 ∧ k167.C w A7 x.f0.f5.length x.f0.f5 ∧ x.f1.f2.length ≤ c10 ∧ k169.C w A10 x.f1.f2.length x.f1.f2 ∧ x.f1.f3.length ≤ c11 ∧ k76.C w A11 x.f1.f3.length x.f1.f3 ∧ x.f1.f4.length ≤ c12 ∧ (Kd.int .i64).C w A12 x.f1.f4.length x.f1.f4 ∧ x.f2.length ≤ c13 ∧ k118.C w A13 x.f2.length x.f2 ∧ x.f3.length ≤ c14 ∧ k120.C w A14 x.f3.length x.f3 ∧ x.f4.length ≤ c15 ∧ (Kd.int .i64).C w A15 x.f4.length x.f4 ∧ x.f5.length ≤ c16 ∧ k122.C w A16 x.f5.length x.f5 ∧ x.f6.length ≤ c17 ∧ Kd.string.C w A17 x.f6.length x.f6 ∧ x.f7.length ≤ c18 ∧ Kd.string.C w A18 x.f7.length x.f7 := by
  obtain ⟨_, _, rfl, s0, ⟨_, _, rfl, s8, ⟨_, _, rfl, ⟨A13, c13, rfl, l13, g13⟩, ⟨_, _, rfl, ⟨A14, c14, rfl, l14, g14⟩, ⟨_, _, rfl, ⟨A15, c15, rfl, l15, g15⟩, ⟨_, _, rfl, ⟨A16, c16, rfl, l16, g16⟩, ⟨_, _, rfl, ⟨A17, c17, rfl, l17, g17⟩, ⟨A18, c18, rfl, l18, g18⟩⟩⟩⟩⟩⟩⟩⟩ := h
  obtain ⟨A0, c0, A1, c1, A2, c2, A3, c3, A7, c7, rfl, l0, g0, l1, g1, l2, g2, l3, g3, l7, g7⟩ := k51_open s0
  obtain ⟨A10, c10, A11, c11, A12, c12, rfl, l10, g10, l11, g11, l12, g12⟩ := k55_open s8
  exact ⟨A0, c0, A1, c1, A2, c2, A3, c3, A7, c7, A10, c10, A11, c11, A12, c12, A13, c13, A14, c14, A15, c15, A16, c16, A17, c17, A18, c18, rfl, l0, g0, l1, g1, l2, g2, l3, g3, l7, g7, l10, g10, l11, g11, l12, g12, l13, g13, l14, g14, l15, g15, l16, g16, l17, g17, l18, g18⟩
theorem k59_openM {w : World} {base : Nat} {ok : Nat → Prop} {x : S59} {cs : List Value} (h : k59.M w base ok x cs) : ∃ v0 v1 v2 v3 v7 v10 v11 v12 v13 v14 v15 v16 v17 v18, cs = [v0, v1, v2, v3, .int .i64 x.f0.f2, .int .i64 x.f0.f3, .int .i64 x.f0.f4, v7, .string x.f1.f0, .int .i64 x.f1.f1, v10, v11, v12, v13, v14, v15, v16, v17, v18] ∧ k118.R 118 w base ok v0 x.f0.f0.f0 ∧ k198.R 198 w base ok v1 x.f0.f0.f1 ∧ k200.R 200 w base ok v2 x.f0.f0.f2 ∧ k165.R 165 w base ok v3 x.f0.f1 ∧ k167.R 167 w base ok v7 x.f0.f5 ∧ k169.R 169 w base ok v10 x.f1.f2 ∧ k76.R 76 w base ok v11 x.f1.f3 ∧ (Kd.int .i64).R 3 w base ok v12 x.f1.f4 ∧ k118.R 118 w base ok v13 x.f2 ∧ k120.R 120 w base ok v14 x.f3 ∧ (Kd.int .i64).R 3 w base ok v15 x.f4 ∧ k122.R 122 w base ok v16 x.f5 ∧ Kd.string.R 9 w base ok v17 x.f6 ∧ Kd.string.R 9 w base ok v18 x.f7 := by
  obtain ⟨_, _, rfl, s0, ⟨_, _, rfl, s8, ⟨_, _, rfl, ⟨v13, rfl, g13⟩, ⟨_, _, rfl, ⟨v14, rfl, g14⟩, ⟨_, _, rfl, ⟨v15, rfl, g15⟩, ⟨_, _, rfl, ⟨v16, rfl, g16⟩, ⟨_, _, rfl, ⟨v17, rfl, g17⟩, ⟨v18, rfl, g18⟩⟩⟩⟩⟩⟩⟩⟩ := h
  obtain ⟨v0, v1, v2, v3, v7, rfl, g0, g1, g2, g3, g7⟩ := k51_openM s0
  obtain ⟨v10, v11, v12, rfl, g10, g11, g12⟩ := k55_openM s8
  exact ⟨v0, v1, v2, v3, v7, v10, v11, v12, v13, v14, v15, v16, v17, v18, rfl, g0, g1, g2, g3, g7, g10, g11, g12, g13, g14, g15, g16, g17, g18⟩
theorem k59_mk (w : World) (x : S59) {A0 : Option Addr} {c0 : Nat} (l0 : x.f0.f0.f0.length ≤ c0) (g0 : k118.C w A0 x.f0.f0.f0.length x.f0.f0.f0) {A1 : Option Addr} {c1 : Nat} (l1 : x.f0.f0.f1.length ≤ c1) (g1 : k198.C w A1 x.f0.f0.f1.length x.f0.f0.f1) {A2 : Option Addr} {c2 : Nat} (l2 : x.f0.f0.f2.length ≤ c2) (g2 : k200.C w A2 x.f0.f0.f2.length x.f0.f0.f2) {A3 : Option Addr} {c3 : Nat} (l3 : x.f0.f1.length ≤ c3) (g3 : k165.C w A3 x.f0.f1.length x.f0.f1) {A7 : Option Addr} {c7 : Nat} (l7 : x.f0.f5.length ≤ c7) (g7 : k167.C w A7 x.f0.f5.length x.f0.f5) {A10 : Option Addr} {c10 : Nat} (l10 : x.f1.f2.length ≤ c10) (g10 : k169.C w A10 x.f1.f2.length x.f1.f2) {A11 : Option Addr} {c11 : Nat} (l11 : x.f1.f3.length ≤ c11) (g11 : k76.C w A11 x.f1.f3.length x.f1.f3) {A12 : Option Addr} {c12 : Nat} (l12 : x.f1.f4.length ≤ c12) (g12 : (Kd.int .i64).C w A12 x.f1.f4.length x.f1.f4) {A13 : Option Addr} {c13 : Nat} (l13 : x.f2.length ≤ c13) (g13 : k118.C w A13 x.f2.length x.f2) {A14 : Option Addr} {c14 : Nat} (l14 : x.f3.length ≤ c14) (g14 : k120.C w A14 x.f3.length x.f3) {A15 : Option Addr} {c15 : Nat} (l15 : x.f4.length ≤ c15) (g15 : (Kd.int .i64).C w A15 x.f4.length x.f4) {A16 : Option Addr} {c16 : Nat} (l16 : x.f5.length ≤ c16) (g16 : k122.C w A16 x.f5.length x.f5) {A17 : Option Addr} {c17 : Nat} (l17 : x.f6.length ≤ c17) (g17 : Kd.string.C w A17 x.f6.length x.f6) {A18 : Option Addr} {c18 : Nat} (l18 : x.f7.length ≤ c18) (g18 : Kd.string.C w A18 x.f7.length x.f7) : k59.K w x [.slice A0 x.f0.f0.f0.length c0, .slice A1 x.f0.f0.f1.length c1, .slice A2 x.f0.f0.f2.length c2, .slice A3 x.f0.f1.length c3, .int .i64 x.f0.f2, .int .i64 x.f0.f3, .int .i64 x.f0.f4, .slice A7 x.f0.f5.length c7, .string x.f1.f0, .int .i64 x.f1.f1, .slice A10 x.f1.f2.length c10, .slice A11 x.f1.f3.length c11, .slice A12 x.f1.f4.length c12, .slice A13 x.f2.length c13, .slice A14 x.f3.length c14, .slice A15 x.f4.length c15, .slice A16 x.f5.length c16, .slice A17 x.f6.length c17, .slice A18 x.f7.length c18] := ⟨[.slice A0 x.f0.f0.f0.length c0, .slice A1 x.f0.f0.f1.length c1, .slice A2 x.f0.f0.f2.length c2, .slice A3 x.f0.f1.length c3, .int .i64 x.f0.f2, .int .i64 x.f0.f3, .int .i64 x.f0.f4, .slice A7 x.f0.f5.length c7], [.string x.f1.f0, .int .i64 x.f1.f1, .slice A10 x.f1.f2.length c10, .slice A11 x.f1.f3.length c11, .slice A12 x.f1.f4.length c12, .slice A13 x.f2.length c13, .slice A14 x.f3.length c14, .slice A15 x.f4.length c15, .slice A16 x.f5.length c16, .slice A17 x.f6.length c17, .slice A18 x.f7.length c18], rfl, (k51_mk w x.f0 l0 g0 l1 g1 l2 g2 l3 g3 l7 g7), ⟨[.string x.f1.f0, .int .i64 x.f1.f1, .slice A10 x.f1.f2.length c10, .slice A11 x.f1.f3.length c11, .slice A12 x.f1.f4.length c12], [.slice A13 x.f2.length c13, .slice A14 x.f3.length c14, .slice A15 x.f4.length c15, .slice A16 x.f5.length c16, .slice A17 x.f6.length c17, .slice A18 x.f7.length c18], rfl, (k55_mk w x.f1 l10 g10 l11 g11 l12 g12), ⟨[.slice A13 x.f2.length c13], [.slice A14 x.f3.length c14, .slice A15 x.f4.length c15, .slice A16 x.f5.length c16, .slice A17 x.f6.length c17, .slice A18 x.f7.length c18], rfl, ⟨A13, c13, rfl, l13, g13⟩, ⟨[.slice A14 x.f3.length c14], [.slice A15 x.f4.length c15, .slice A16 x.f5.length c16, .slice A17 x.f6.length c17, .slice A18 x.f7.length c18], rfl, ⟨A14, c14, rfl, l14, g14⟩, ⟨[.slice A15 x.f4.length c15], [.slice A16 x.f5.length c16, .slice A17 x.f6.length c17, .slice A18 x.f7.length c18], rfl, ⟨A15, c15, rfl, l15, g15⟩, ⟨[.slice A16 x.f5.length c16], [.slice A17 x.f6.length c17, .slice A18 x.f7.length c18], rfl, ⟨A16, c16, rfl, l16, g16⟩, ⟨[.slice A17 x.f6.length c17], [.slice A18 x.f7.length c18], rfl, ⟨A17, c17, rfl, l17, g17⟩, ⟨A18, c18, rfl, l18, g18⟩⟩⟩⟩⟩⟩⟩⟩
theorem k59_mkM (w : World) (base : Nat) (ok : Nat → Prop) (x : S59) {v0 : Value} (g0 : k118.R 118 w base ok v0 x.f0.f0.f0) {v1 : Value} (g1 : k198.R 198 w base ok v1 x.f0.f0.f1) {v2 : Value} (g2 : k200.R 200 w base ok v2 x.f0.f0.f2) {v3 : Value} (g3 : k165.R 165 w base ok v3 x.f0.f1) {v7 : Value} (g7 : k167.R 167 w base ok v7 x.f0.f5) {v10 : Value} (g10 : k169.R 169 w base ok v10 x.f1.f2) {v11 : Value} (g11 : k76.R 76 w base ok v11 x.f1.f3) {v12 : Value} (g12 : (Kd.int .i64).R 3 w base ok v12 x.f1.f4) {v13 : Value} (g13 : k118.R 118 w base ok v13 x.f2) {v14 : Value} (g14 : k120.R 120 w base ok v14 x.f3) {v15 : Value} (g15 : (Kd.int .i64).R 3 w base ok v15 x.f4) {v16 : Value} (g16 : k122.R 122 w base ok v16 x.f5) {v17 : Value} (g17 : Kd.string.R 9 w base ok v17 x.f6) {v18 : Value} (g18 : Kd.string.R 9 w base ok v18 x.f7) : k59.M w base ok x [v0, v1, v2, v3, .int .i64 x.f0.f2, .int .i64 x.f0.f3, .int .i64 x.f0.f4, v7, .string x.f1.f0, .int .i64 x.f1.f1, v10, v11, v12, v13, v14, v15, v16, v17, v18] := ⟨[v0, v1, v2, v3, .int .i64 x.f0.f2, .int .i64 x.f0.f3, .int .i64 x.f0.f4, v7], [.string x.f1.f0, .int .i64 x.f1.f1, v10, v11, v12, v13, v14, v15, v16, v17, v18], rfl, (k51_mkM w base ok x.f0 g0 g1 g2 g3 g7), ⟨[.string x.f1.f0, .int .i64 x.f1.f1, v10, v11, v12], [v13, v14, v15, v16, v17, v18], rfl, (k55_mkM w base ok x.f1 g10 g11 g12), ⟨[v13], [v14, v15, v16, v17, v18], rfl, ⟨v13, rfl, g13⟩, ⟨[v14], [v15, v16, v17, v18], rfl, ⟨v14, rfl, g14⟩, ⟨[v15], [v16, v17, v18], rfl, ⟨v15, rfl, g15⟩, ⟨[v16], [v17, v18], rfl, ⟨v16, rfl, g16⟩, ⟨[v17], [v18], rfl, ⟨v17, rfl, g17⟩, ⟨v18, rfl, g18⟩⟩⟩⟩⟩⟩⟩⟩
def rd_T59 (xs : List S59) (i : Int) : S59 := xs.getD i.toNat z59
theorem at_T59 {w : World} {A : Option Addr} {n : Nat} {xs : List S59} (h : Kd.C k59 w A n xs) (i : Int) (h0 : 0 ≤ i) (h1 : i < n) : ∃ ad A0 c0 A1 c1 A2 c2 A3 c3 A7 c7 A10 c10 A11 c11 A12 c12 A13 c13 A14 c14 A15 c15 A16 c16 A17 c17 A18 c18, A = some ad ∧ w.cell? (ad.add (i.toNat * 19)) = some (.slice A0 (rd_T59 xs i).f0.f0.f0.length c0) ∧ w.cell? ⟨(ad.add (i.toNat * 19)).block, (ad.add (i.toNat * 19)).off + 1, none⟩ = some (.slice A1 (rd_T59 xs i).f0.f0.f1.length c1) ∧ w.cell? ⟨(ad.add (i.toNat * 19)).block, (ad.add (i.toNat * 19)).off + 2, none⟩ = some (.slice A2 (rd_T59 xs i).f0.f0.f2.length c2) ∧ w.cell? ⟨(ad.add (i.toNat * 19)).block, (ad.add (i.toNat * 19)).off + 3, none⟩ = some (.slice A3 (rd_T59 xs i).f0.f1.length c3) ∧ w.cell? ⟨(ad.add (i.toNat * 19)).block, (ad.add (i.toNat * 19)).off + 4, none⟩ = some (.int .i64 (rd_T59 xs i).f0.f2) ∧ w.cell? ⟨(ad.add (i.toNat * 19)).block, (ad.add (i.toNat * 19)).off + 5, none⟩ = some (.int .i64 (rd_T59 xs i).f0.f3) ∧ w.cell? ⟨(ad.add (i.toNat * 19)).block, (ad.add (i.toNat * 19)).off + 6, none⟩ = some (.int .i64 (rd_T59 xs i).f0.f4) ∧ w.cell? ⟨(ad.add (i.toNat * 19)).block, (ad.add (i.toNat * 19)).off + 7, none⟩ = some (.slice A7 (rd_T59 xs i).f0.f5.length c7) ∧ w.cell? ⟨(ad.add (i.toNat * 19)).block, (ad.add (i.toNat * 19)).off + 8, none⟩ = some (.string (rd_T59 xs i).f1.f0) ∧ w.cell? ⟨(ad.add (i.toNat * 19)).block, (ad.add (i.toNat * 19)).off + 9, none⟩ = some (.int .i64 (rd_T59 xs i).f1.f1) ∧ w.cell? ⟨(ad.add (i.toNat * 19)).block, (ad.add (i.toNat * 19)).off + 10, none⟩ = some (.slice A10 (rd_T59 xs i).f1.f2.length c10) ∧ w.cell? ⟨(ad.add (i.toNat * 19)).block, (ad.add (i.toNat * 19)).off + 11, none⟩ = some (.slice A11 (rd_T59 xs i).f1.f3.length c11) ∧ w.cell? ⟨(ad.add (i.toNat * 19)).block, (ad.add (i.toNat * 19)).off + 12, none⟩ = some (.slice A12 (rd_T59 xs i).f1.f4.length c12) ∧ w.cell? ⟨(ad.add (i.toNat * 19)).block, (ad.add (i.toNat * 19)).off + 13, none⟩ = some (.slice A13 (rd_T59 xs i).f2.length c13) ∧ w.cell? ⟨(ad.add (i.toNat * 19)).block, (ad.add (i.toNat * 19)).off + 14, none⟩ = some (.slice A14 (rd_T59 xs i).f3.length c14) ∧ w.cell? ⟨(ad.add (i.toNat * 19)).block, (ad.add (i.toNat * 19)).off + 15, none⟩ = some (.slice A15 (rd_T59 xs i).f4.length c15) ∧ w.cell? ⟨(ad.add (i.toNat * 19)).block, (ad.add (i.toNat * 19)).off + 16, none⟩ = some (.slice A16 (rd_T59 xs i).f5.length c16) ∧ w.cell? ⟨(ad.add (i.toNat * 19)).block, (ad.add (i.toNat * 19)).off + 17, none⟩ = some (.slice A17 (rd_T59 xs i).f6.length c17) ∧ w.cell? ⟨(ad.add (i.toNat * 19)).block, (ad.add (i.toNat * 19)).off + 18, none⟩ = some (.slice A18 (rd_T59 xs i).f7.length c18) ∧ (rd_T59 xs i).f0.f0.f0.length ≤ c0 ∧ k118.C w A0 (rd_T59 xs i).f0.f0.f0.length (rd_T59 xs i).f0.f0.f0 ∧ (rd_T59 xs i).f0.f0.f1.length ≤ c1 ∧ k198.C w A1 (rd_T59 xs i).f0.f0.f1.length (rd_T59 xs i).f0.f0.f1 ∧ (rd_T59 xs i).f0.f0.f2.length ≤ c2 ∧ k200.C w A2 (rd_T59 xs i).f0.f0.f2.length (rd_T59 xs i).f0.f0.f2 ∧ (rd_T59 xs i).f0.f1.length ≤ c3 ∧ k165.C w A3 (rd_T59 xs i).f0.f1.length (rd_T59 xs i).f0.f1 ∧ (rd_T59 xs i).f0.f5.length ≤ c7 ∧ k167.C w A7 (rd_T59 xs i).f0.f5.length (rd_T59 xs i).f0.f5 ∧ (rd_T59 xs i).f1.f2.length ≤ c10 ∧ k169.C w A10 (rd_T59 xs i).f1.f2.length (rd_T59 xs i).f1.f2 ∧ (rd_T59 xs i).f1.f3.length ≤ c11 ∧ k76.C w A11 (rd_T59 xs i).f1.f3.length (rd_T59 xs i).f1.f3 ∧ (rd_T59 xs i).f1.f4.length ≤ c12 ∧ (Kd.int .i64).C w A12 (rd_T59 xs i).f1.f4.length (rd_T59 xs i).f1.f4 ∧ (rd_T59 xs i).f2.length ≤ c13 ∧ k118.C w A13 (rd_T59 xs i).f2.length (rd_T59 xs i).f2 ∧ (rd_T59 xs i).f3.length ≤ c14 ∧ k120.C w A14 (rd_T59 xs i).f3.length (rd_T59 xs i).f3 ∧ (rd_T59 xs i).f4.length ≤ c15 ∧ (Kd.int .i64).C w A15 (rd_T59 xs i).f4.length (rd_T59 xs i).f4 ∧ (rd_T59 xs i).f5.length ≤ c16 ∧ k122.C w A16 (rd_T59 xs i).f5.length (rd_T59 xs i).f5 ∧ (rd_T59 xs i).f6.length ≤ c17 ∧ Kd.string.C w A17 (rd_T59 xs i).f6.length (rd_T59 xs i).f6 ∧ (rd_T59 xs i).f7.length ≤ c18 ∧ Kd.string.C w A18 (rd_T59 xs i).f7.length (rd_T59 xs i).f7 := by
  obtain ⟨ad, c, e, _, hK, hc0⟩ := Kd.C_get h z59 i h0 h1
  have hc : ∀ j u, c[j]? = some u → w.cell? (ad.add (i.toNat * 19 + j)) = some u := hc0
  obtain ⟨A0, c0, A1, c1, A2, c2, A3, c3, A7, c7, A10, c10, A11, c11, A12, c12, A13, c13, A14, c14, A15, c15, A16, c16, A17, c17, A18, c18, rfl, l0, g0, l1, g1, l2, g2, l3, g3, l7, g7, l10, g10, l11, g11, l12, g12, l13, g13, l14, g14, l15, g15, l16, g16, l17, g17, l18, g18⟩ := k59_open hK
  exact ⟨ad, A0, c0, A1, c1, A2, c2, A3, c3, A7, c7, A10, c10, A11, c11, A12, c12, A13, c13, A14, c14, A15, c15, A16, c16, A17, c17, A18, c18, e, hc 0 _ rfl, by rw [← add_field _ _ 1 (by omega)]; exact hc 1 _ rfl, by rw [← add_field _ _ 2 (by omega)]; exact hc 2 _ rfl, by rw [← add_field _ _ 3 (by omega)]; exact hc 3 _ rfl, by rw [← add_field _ _ 4 (by omega)]; exact hc 4 _ rfl, by rw [← add_field _ _ 5 (by omega)]; exact hc 5 _ rfl, by rw [← add_field _ _ 6 (by omega)]; exact hc 6 _ rfl, by rw [← add_field _ _ 7 (by omega)]; exact hc 7 _ rfl, by rw [← add_field _ _ 8 (by omega)]; exact hc 8 _ rfl, by rw [← add_field _ _ 9 (by omega)]; exact hc 9 _ rfl, by rw [← add_field _ _ 10 (by omega)]; exact hc 10 _ rfl, by rw [← add_field _ _ 11 (by omega)]; exact hc 11 _ rfl, by rw [← add_field _ _ 12 (by omega)]; exact hc 12 _ rfl, by rw [← add_field _ _ 13 (by omega)]; exact hc 13 _ rfl, by rw [← add_field _ _ 14 (by omega)]; exact hc 14 _ rfl, by rw [← add_field _ _ 15 (by omega)]; exact hc 15 _ rfl, by rw [← add_field _ _ 16 (by omega)]; exact hc 16 _ rfl, by rw [← add_field _ _ 17 (by omega)]; exact hc 17 _ rfl, by rw [← add_field _ _ 18 (by omega)]; exact hc 18 _ rfl, l0, g0, l1, g1, l2, g2, l3, g3, l7, g7, l10, g10, l11, g11, l12, g12, l13, g13, l14, g14, l15, g15, l16, g16, l17, g17, l18, g18⟩

theorem km99 : Up k99 := up_iso _ (up_pair up_int (up_pair up_string (up_pair up_string (up_pair up_int (up_pair up_int (up_pair up_string (up_pair up_bool (up_pair up_int (up_pair up_int (up_pair (up_slice 3 up_int) (up_pair (up_slice 9 up_string) (up_pair (up_slice 9 up_string) up_string))))))))))))
def q99 : Zd S99 := Zd.iso (Zd.pair (Zd.int .i64) (Zd.pair Zd.string (Zd.pair Zd.string (Zd.pair (Zd.int .i64) (Zd.pair (Zd.int .i64) (Zd.pair Zd.string (Zd.pair Zd.bool (Zd.pair (Zd.int .i64) (Zd.pair (Zd.int .i64) (Zd.pair (Zd.slice 3 (Zd.int .i64)) (Zd.pair (Zd.slice 9 Zd.string) (Zd.pair (Zd.slice 9 Zd.string) Zd.string)))))))))))) (fun x : S99 => (x.f0, x.f1, x.f2, x.f3, x.f4, x.f5, x.f6, x.f7, x.f8, x.f9, x.f10, x.f11, x.f12))
theorem km224 : Up k224 := up_iso _ (up_pair up_int up_int)
def q224 : Zd S224 := Zd.iso (Zd.pair (Zd.int .i64) (Zd.int .i64)) (fun x : S224 => (x.f0, x.f1))
theorem km187 : Up k187 := up_iso _ (up_pair up_string (up_pair up_int (up_pair up_int (up_pair up_int (up_pair up_int (up_pair (up_slice 224 km224) up_string))))))
def q187 : Zd S187 := Zd.iso (Zd.pair Zd.string (Zd.pair (Zd.int .i64) (Zd.pair (Zd.int .i64) (Zd.pair (Zd.int .i64) (Zd.pair (Zd.int .i64) (Zd.pair (Zd.slice 224 q224) Zd.string)))))) (fun x : S187 => (x.f0, x.f1, x.f2, x.f3, x.f4, x.f5, x.f6))
theorem km190 : Up k190 := up_iso _ (up_pair up_string up_string)
def q190 : Zd S190 := Zd.iso (Zd.pair Zd.string Zd.string) (fun x : S190 => (x.f0, x.f1))
theorem km26 : Up k26 := up_iso _ (up_pair (up_slice 99 km99) (up_pair (up_slice 187 km187) (up_slice 190 km190)))
def q26 : Zd S26 := Zd.iso (Zd.pair (Zd.slice 99 q99) (Zd.pair (Zd.slice 187 q187) (Zd.slice 190 q190))) (fun x : S26 => (x.f0, x.f1, x.f2))
theorem km138 : Up k138 := up_iso _ (up_pair up_int (up_pair (up_slice 3 up_int) (up_pair up_bool (up_pair up_bool up_int))))
def q138 : Zd S138 := Zd.iso (Zd.pair (Zd.int .i64) (Zd.pair (Zd.slice 3 (Zd.int .i64)) (Zd.pair Zd.bool (Zd.pair Zd.bool (Zd.int .i64))))) (fun x : S138 => (x.f0, x.f1, x.f2, x.f3, x.f4))
theorem km140 : Up k140 := up_iso _ (up_pair up_int (up_pair (up_slice 3 up_int) km138))
def q140 : Zd S140 := Zd.iso (Zd.pair (Zd.int .i64) (Zd.pair (Zd.slice 3 (Zd.int .i64)) q138)) (fun x : S140 => (x.f0, x.f1, x.f2))
theorem km143 : Up k143 := up_iso _ (up_pair up_string (up_pair up_string up_int))
def q143 : Zd S143 := Zd.iso (Zd.pair Zd.string (Zd.pair Zd.string (Zd.int .i64))) (fun x : S143 => (x.f0, x.f1, x.f2))
theorem km30 : Up k30 := up_iso _ (up_pair km26 (up_pair (up_slice 140 km140) (up_pair up_int (up_pair up_int (up_pair up_int (up_slice 143 km143))))))
def q30 : Zd S30 := Zd.iso (Zd.pair q26 (Zd.pair (Zd.slice 140 q140) (Zd.pair (Zd.int .i64) (Zd.pair (Zd.int .i64) (Zd.pair (Zd.int .i64) (Zd.slice 143 q143)))))) (fun x : S30 => (x.f0, x.f1, x.f2, x.f3, x.f4, x.f5))
theorem km146 : Up k146 := up_iso _ (up_pair up_int (up_pair up_int (up_pair up_string up_int)))
def q146 : Zd S146 := Zd.iso (Zd.pair (Zd.int .i64) (Zd.pair (Zd.int .i64) (Zd.pair Zd.string (Zd.int .i64)))) (fun x : S146 => (x.f0, x.f1, x.f2, x.f3))
theorem km220 : Up k220 := up_iso _ (up_pair up_int (up_pair up_int (up_pair (up_slice 9 up_string) (up_slice 9 up_string))))
def q220 : Zd S220 := Zd.iso (Zd.pair (Zd.int .i64) (Zd.pair (Zd.int .i64) (Zd.pair (Zd.slice 9 Zd.string) (Zd.slice 9 Zd.string)))) (fun x : S220 => (x.f0, x.f1, x.f2, x.f3))
theorem km150 : Up k150 := up_iso _ (up_pair up_string (up_pair up_int (up_pair up_int (up_pair up_int (up_pair up_int (up_pair up_int (up_pair (up_slice 220 km220) up_string)))))))
def q150 : Zd S150 := Zd.iso (Zd.pair Zd.string (Zd.pair (Zd.int .i64) (Zd.pair (Zd.int .i64) (Zd.pair (Zd.int .i64) (Zd.pair (Zd.int .i64) (Zd.pair (Zd.int .i64) (Zd.pair (Zd.slice 220 q220) Zd.string))))))) (fun x : S150 => (x.f0, x.f1, x.f2, x.f3, x.f4, x.f5, x.f6, x.f7))
theorem km152 : Up k152 := up_iso _ (up_pair up_int km150)
def q152 : Zd S152 := Zd.iso (Zd.pair (Zd.int .i64) q150) (fun x : S152 => (x.f0, x.f1))
theorem km35 : Up k35 := up_iso _ (up_pair up_string (up_pair up_int (up_pair (up_slice 146 km146) (up_pair (up_slice 152 km152) (up_slice 3 up_int)))))
def q35 : Zd S35 := Zd.iso (Zd.pair Zd.string (Zd.pair (Zd.int .i64) (Zd.pair (Zd.slice 146 q146) (Zd.pair (Zd.slice 152 q152) (Zd.slice 3 (Zd.int .i64)))))) (fun x : S35 => (x.f0, x.f1, x.f2, x.f3, x.f4))
theorem km102 : Up k102 := up_iso _ (up_pair up_bool up_string)
def q102 : Zd S102 := Zd.iso (Zd.pair Zd.bool Zd.string) (fun x : S102 => (x.f0, x.f1))
theorem km105 : Up k105 := up_iso _ (up_pair up_int up_string)
def q105 : Zd S105 := Zd.iso (Zd.pair (Zd.int .i64) Zd.string) (fun x : S105 => (x.f0, x.f1))
theorem km40 : Up k40 := up_iso _ (up_pair km30 (up_pair km35 (up_pair (up_slice 99 km99) (up_pair (up_slice 102 km102) (up_pair (up_slice 3 up_int) (up_pair (up_slice 105 km105) (up_pair (up_slice 9 up_string) (up_slice 9 up_string))))))))
def q40 : Zd S40 := Zd.iso (Zd.pair q30 (Zd.pair q35 (Zd.pair (Zd.slice 99 q99) (Zd.pair (Zd.slice 102 q102) (Zd.pair (Zd.slice 3 (Zd.int .i64)) (Zd.pair (Zd.slice 105 q105) (Zd.pair (Zd.slice 9 Zd.string) (Zd.slice 9 Zd.string)))))))) (fun x : S40 => (x.f0, x.f1, x.f2, x.f3, x.f4, x.f5, x.f6, x.f7))
theorem km154 : Up k154 := up_iso _ (up_pair up_int (up_pair up_int (up_pair (up_slice 9 up_string) (up_slice 9 up_string))))
def q154 : Zd S154 := Zd.iso (Zd.pair (Zd.int .i64) (Zd.pair (Zd.int .i64) (Zd.pair (Zd.slice 9 Zd.string) (Zd.slice 9 Zd.string)))) (fun x : S154 => (x.f0, x.f1, x.f2, x.f3))
theorem km74 : Up k74 := up_iso _ (up_pair up_string (up_pair up_int (up_pair up_int (up_pair up_int (up_pair up_int (up_pair up_int (up_pair (up_slice 154 km154) up_string)))))))
def q74 : Zd S74 := Zd.iso (Zd.pair Zd.string (Zd.pair (Zd.int .i64) (Zd.pair (Zd.int .i64) (Zd.pair (Zd.int .i64) (Zd.pair (Zd.int .i64) (Zd.pair (Zd.int .i64) (Zd.pair (Zd.slice 154 q154) Zd.string))))))) (fun x : S74 => (x.f0, x.f1, x.f2, x.f3, x.f4, x.f5, x.f6, x.f7))
theorem km110 : Up k110 := up_fix (fun d h => up_iso _ (up_pair up_int (up_pair up_string (up_slice 110 h))))
def G110 (d : Zd S110) : Zd S110 := Zd.iso (Zd.pair (Zd.int .i64) (Zd.pair Zd.string (Zd.slice 110 d))) (fun x : S110 => (x.f0, x.f1, x.f2))
theorem g110 : ZF G110 := ZF.iso _ (ZF.pair (ZF.const _) (ZF.pair (ZF.const _) (ZF.slice 110 ZF.id)))
theorem fold110 {w : World} {x : S110} {cs : List Value} (h : (F110 k110).K w x cs) : k110.K w x cs := by
  obtain ⟨_, _, rfl, rfl, _, _, rfl, rfl, ⟨A2, c2, rfl, l2, h2⟩⟩ := h
  exact k110_mk w x l2 h2
def q110 : Zd S110 := Zd.fix k110 G110 (fun d hd w x cs h => fold110 (by rw [← hd]; exact h))
theorem q110_fold {w : World} {S : FP} {x : S110} {cs : List Value} (h : (G110 q110).M w S x cs) : q110.M w S x cs := Zd.fix_fold _ _ _ g110 h
theorem km118 : Up k118 := up_iso _ (up_pair up_int (up_pair up_string (up_pair up_string (up_pair up_int (up_pair up_int (up_pair up_string (up_pair up_bool (up_pair up_int (up_pair up_int (up_pair (up_slice 3 up_int) (up_pair (up_slice 9 up_string) (up_pair (up_slice 9 up_string) up_string))))))))))))
def q118 : Zd S118 := Zd.iso (Zd.pair (Zd.int .i64) (Zd.pair Zd.string (Zd.pair Zd.string (Zd.pair (Zd.int .i64) (Zd.pair (Zd.int .i64) (Zd.pair Zd.string (Zd.pair Zd.bool (Zd.pair (Zd.int .i64) (Zd.pair (Zd.int .i64) (Zd.pair (Zd.slice 3 (Zd.int .i64)) (Zd.pair (Zd.slice 9 Zd.string) (Zd.pair (Zd.slice 9 Zd.string) Zd.string)))))))))))) (fun x : S118 => (x.f0, x.f1, x.f2, x.f3, x.f4, x.f5, x.f6, x.f7, x.f8, x.f9, x.f10, x.f11, x.f12))
theorem km222 : Up k222 := up_iso _ (up_pair up_int up_int)
def q222 : Zd S222 := Zd.iso (Zd.pair (Zd.int .i64) (Zd.int .i64)) (fun x : S222 => (x.f0, x.f1))
theorem km198 : Up k198 := up_iso _ (up_pair up_string (up_pair up_int (up_pair up_int (up_pair up_int (up_pair up_int (up_pair (up_slice 222 km222) up_string))))))
def q198 : Zd S198 := Zd.iso (Zd.pair Zd.string (Zd.pair (Zd.int .i64) (Zd.pair (Zd.int .i64) (Zd.pair (Zd.int .i64) (Zd.pair (Zd.int .i64) (Zd.pair (Zd.slice 222 q222) Zd.string)))))) (fun x : S198 => (x.f0, x.f1, x.f2, x.f3, x.f4, x.f5, x.f6))
theorem km200 : Up k200 := up_iso _ (up_pair up_string up_string)
def q200 : Zd S200 := Zd.iso (Zd.pair Zd.string Zd.string) (fun x : S200 => (x.f0, x.f1))
theorem km47 : Up k47 := up_iso _ (up_pair (up_slice 118 km118) (up_pair (up_slice 198 km198) (up_slice 200 km200)))
def q47 : Zd S47 := Zd.iso (Zd.pair (Zd.slice 118 q118) (Zd.pair (Zd.slice 198 q198) (Zd.slice 200 q200))) (fun x : S47 => (x.f0, x.f1, x.f2))
theorem km163 : Up k163 := up_iso _ (up_pair up_int (up_pair (up_slice 3 up_int) (up_pair up_bool (up_pair up_bool up_int))))
def q163 : Zd S163 := Zd.iso (Zd.pair (Zd.int .i64) (Zd.pair (Zd.slice 3 (Zd.int .i64)) (Zd.pair Zd.bool (Zd.pair Zd.bool (Zd.int .i64))))) (fun x : S163 => (x.f0, x.f1, x.f2, x.f3, x.f4))
theorem km165 : Up k165 := up_iso _ (up_pair up_int (up_pair (up_slice 3 up_int) km163))
def q165 : Zd S165 := Zd.iso (Zd.pair (Zd.int .i64) (Zd.pair (Zd.slice 3 (Zd.int .i64)) q163)) (fun x : S165 => (x.f0, x.f1, x.f2))
theorem km167 : Up k167 := up_iso _ (up_pair up_string (up_pair up_string up_int))
def q167 : Zd S167 := Zd.iso (Zd.pair Zd.string (Zd.pair Zd.string (Zd.int .i64))) (fun x : S167 => (x.f0, x.f1, x.f2))
theorem km51 : Up k51 := up_iso _ (up_pair km47 (up_pair (up_slice 165 km165) (up_pair up_int (up_pair up_int (up_pair up_int (up_slice 167 km167))))))
def q51 : Zd S51 := Zd.iso (Zd.pair q47 (Zd.pair (Zd.slice 165 q165) (Zd.pair (Zd.int .i64) (Zd.pair (Zd.int .i64) (Zd.pair (Zd.int .i64) (Zd.slice 167 q167)))))) (fun x : S51 => (x.f0, x.f1, x.f2, x.f3, x.f4, x.f5))
theorem km169 : Up k169 := up_iso _ (up_pair up_int (up_pair up_int (up_pair up_string up_int)))
def q169 : Zd S169 := Zd.iso (Zd.pair (Zd.int .i64) (Zd.pair (Zd.int .i64) (Zd.pair Zd.string (Zd.int .i64)))) (fun x : S169 => (x.f0, x.f1, x.f2, x.f3))
theorem km76 : Up k76 := up_iso _ (up_pair up_int km74)
def q76 : Zd S76 := Zd.iso (Zd.pair (Zd.int .i64) q74) (fun x : S76 => (x.f0, x.f1))
theorem km55 : Up k55 := up_iso _ (up_pair up_string (up_pair up_int (up_pair (up_slice 169 km169) (up_pair (up_slice 76 km76) (up_slice 3 up_int)))))
def q55 : Zd S55 := Zd.iso (Zd.pair Zd.string (Zd.pair (Zd.int .i64) (Zd.pair (Zd.slice 169 q169) (Zd.pair (Zd.slice 76 q76) (Zd.slice 3 (Zd.int .i64)))))) (fun x : S55 => (x.f0, x.f1, x.f2, x.f3, x.f4))
theorem km120 : Up k120 := up_iso _ (up_pair up_bool up_string)
def q120 : Zd S120 := Zd.iso (Zd.pair Zd.bool Zd.string) (fun x : S120 => (x.f0, x.f1))
theorem km122 : Up k122 := up_iso _ (up_pair up_int up_string)
def q122 : Zd S122 := Zd.iso (Zd.pair (Zd.int .i64) Zd.string) (fun x : S122 => (x.f0, x.f1))
theorem km59 : Up k59 := up_iso _ (up_pair km51 (up_pair km55 (up_pair (up_slice 118 km118) (up_pair (up_slice 120 km120) (up_pair (up_slice 3 up_int) (up_pair (up_slice 122 km122) (up_pair (up_slice 9 up_string) (up_slice 9 up_string))))))))
def q59 : Zd S59 := Zd.iso (Zd.pair q51 (Zd.pair q55 (Zd.pair (Zd.slice 118 q118) (Zd.pair (Zd.slice 120 q120) (Zd.pair (Zd.slice 3 (Zd.int .i64)) (Zd.pair (Zd.slice 122 q122) (Zd.pair (Zd.slice 9 Zd.string) (Zd.slice 9 Zd.string)))))))) (fun x : S59 => (x.f0, x.f1, x.f2, x.f3, x.f4, x.f5, x.f6, x.f7))
theorem rdrep_T76 (n : Nat) (i : Int) : rd_T76 (List.replicate n z76) i = z76 := by unfold rd_T76; rw [List.getD_eq_getElem?_getD, List.getElem?_replicate]; split <;> rfl
theorem rdrep_T118 (n : Nat) (i : Int) : rd_T118 (List.replicate n z118) i = z118 := by unfold rd_T118; rw [List.getD_eq_getElem?_getD, List.getElem?_replicate]; split <;> rfl
theorem rdrep_T120 (n : Nat) (i : Int) : rd_T120 (List.replicate n z120) i = z120 := by unfold rd_T120; rw [List.getD_eq_getElem?_getD, List.getElem?_replicate]; split <;> rfl
theorem rdrep_T122 (n : Nat) (i : Int) : rd_T122 (List.replicate n z122) i = z122 := by unfold rd_T122; rw [List.getD_eq_getElem?_getD, List.getElem?_replicate]; split <;> rfl
theorem rdrep_T154 (n : Nat) (i : Int) : rd_T154 (List.replicate n z154) i = z154 := by unfold rd_T154; rw [List.getD_eq_getElem?_getD, List.getElem?_replicate]; split <;> rfl
theorem rdrep_T165 (n : Nat) (i : Int) : rd_T165 (List.replicate n z165) i = z165 := by unfold rd_T165; rw [List.getD_eq_getElem?_getD, List.getElem?_replicate]; split <;> rfl
theorem rdrep_T167 (n : Nat) (i : Int) : rd_T167 (List.replicate n z167) i = z167 := by unfold rd_T167; rw [List.getD_eq_getElem?_getD, List.getElem?_replicate]; split <;> rfl
theorem rdrep_T169 (n : Nat) (i : Int) : rd_T169 (List.replicate n z169) i = z169 := by unfold rd_T169; rw [List.getD_eq_getElem?_getD, List.getElem?_replicate]; split <;> rfl
theorem rdrep_T198 (n : Nat) (i : Int) : rd_T198 (List.replicate n z198) i = z198 := by unfold rd_T198; rw [List.getD_eq_getElem?_getD, List.getElem?_replicate]; split <;> rfl
theorem rdrep_T200 (n : Nat) (i : Int) : rd_T200 (List.replicate n z200) i = z200 := by unfold rd_T200; rw [List.getD_eq_getElem?_getD, List.getElem?_replicate]; split <;> rfl
theorem rdrep_T222 (n : Nat) (i : Int) : rd_T222 (List.replicate n z222) i = z222 := by unfold rd_T222; rw [List.getD_eq_getElem?_getD, List.getElem?_replicate]; split <;> rfl
theorem info3 : (Tryz.prog.info? 3).map (fun i => (i.zero, i.size, i.bytes)) = some (some (.int .i64 0), 1, 8) := by kernel_rfl
theorem info5 : (Tryz.prog.info? 5).map (fun i => (i.zero, i.size, i.bytes)) = some (some (.int .u8 0), 1, 1) := by kernel_rfl
theorem info9 : (Tryz.prog.info? 9).map (fun i => (i.zero, i.size, i.bytes)) = some (some (.string ⟨#[]⟩), 1, 16) := by kernel_rfl
theorem info76 : (Tryz.prog.info? 76).map (fun i => (i.zero, i.size, i.bytes)) = some (some (.agg #[.int .i64 0, .string ⟨#[]⟩, .int .i64 0, .int .i64 0, .int .i64 0, .int .i64 0, .int .i64 0, .slice none 0 0, .string ⟨#[]⟩]), 9, 104) := by kernel_rfl
theorem info110 : (Tryz.prog.info? 110).map (fun i => (i.zero, i.size, i.bytes)) = some (some (.agg #[.int .i64 0, .string ⟨#[]⟩, .slice none 0 0]), 3, 48) := by kernel_rfl
theorem info118 : (Tryz.prog.info? 118).map (fun i => (i.zero, i.size, i.bytes)) = some (some (.agg #[.int .i64 0, .string ⟨#[]⟩, .string ⟨#[]⟩, .int .i64 0, .int .i64 0, .string ⟨#[]⟩, .bool false, .int .i64 0, .int .i64 0, .slice none 0 0, .slice none 0 0, .slice none 0 0, .string ⟨#[]⟩]), 13, 184) := by kernel_rfl
theorem info120 : (Tryz.prog.info? 120).map (fun i => (i.zero, i.size, i.bytes)) = some (some (.agg #[.bool false, .string ⟨#[]⟩]), 2, 24) := by kernel_rfl
theorem info122 : (Tryz.prog.info? 122).map (fun i => (i.zero, i.size, i.bytes)) = some (some (.agg #[.int .i64 0, .string ⟨#[]⟩]), 2, 24) := by kernel_rfl
theorem info154 : (Tryz.prog.info? 154).map (fun i => (i.zero, i.size, i.bytes)) = some (some (.agg #[.int .i64 0, .int .i64 0, .slice none 0 0, .slice none 0 0]), 4, 64) := by kernel_rfl
theorem info165 : (Tryz.prog.info? 165).map (fun i => (i.zero, i.size, i.bytes)) = some (some (.agg #[.int .i64 0, .slice none 0 0, .int .i64 0, .slice none 0 0, .bool false, .bool false, .int .i64 0]), 7, 80) := by kernel_rfl
theorem info167 : (Tryz.prog.info? 167).map (fun i => (i.zero, i.size, i.bytes)) = some (some (.agg #[.string ⟨#[]⟩, .string ⟨#[]⟩, .int .i64 0]), 3, 40) := by kernel_rfl
theorem info169 : (Tryz.prog.info? 169).map (fun i => (i.zero, i.size, i.bytes)) = some (some (.agg #[.int .i64 0, .int .i64 0, .string ⟨#[]⟩, .int .i64 0]), 4, 40) := by kernel_rfl
theorem info198 : (Tryz.prog.info? 198).map (fun i => (i.zero, i.size, i.bytes)) = some (some (.agg #[.string ⟨#[]⟩, .int .i64 0, .int .i64 0, .int .i64 0, .int .i64 0, .slice none 0 0, .string ⟨#[]⟩]), 7, 88) := by kernel_rfl
theorem info200 : (Tryz.prog.info? 200).map (fun i => (i.zero, i.size, i.bytes)) = some (some (.agg #[.string ⟨#[]⟩, .string ⟨#[]⟩]), 2, 32) := by kernel_rfl
theorem info222 : (Tryz.prog.info? 222).map (fun i => (i.zero, i.size, i.bytes)) = some (some (.agg #[.int .i64 0, .int .i64 0]), 2, 16) := by kernel_rfl
theorem q154_zero (w : World) (S : FP) : q154.M w S z154 [.int .i64 0, .int .i64 0, .slice none 0 0, .slice none 0 0] := made_none (a := q154) ((pair_app (a := (Zd.int .i64)) (b := (Zd.pair (Zd.int .i64) (Zd.pair (Zd.slice 9 Zd.string) (Zd.slice 9 Zd.string)))) (w := w) (S := (fun (_ : Nat) (_ : Nat) => False)) (js1 := []) (js2 := []) (x := z154.f0) (y := (z154.f1, (z154.f2, z154.f3))) (c0 := [.int .i64 0]) (c1 := [.int .i64 0, .slice none 0 0, .slice none 0 0]) hd_none rfl (pair_app (a := (Zd.int .i64)) (b := (Zd.pair (Zd.slice 9 Zd.string) (Zd.slice 9 Zd.string))) (w := w) (S := (fun (_ : Nat) (_ : Nat) => False)) (js1 := []) (js2 := []) (x := z154.f1) (y := (z154.f2, z154.f3)) (c0 := [.int .i64 0]) (c1 := [.slice none 0 0, .slice none 0 0]) hd_none rfl (pair_app (a := (Zd.slice 9 Zd.string)) (b := (Zd.slice 9 Zd.string)) (w := w) (S := (fun (_ : Nat) (_ : Nat) => False)) (js1 := []) (js2 := []) (x := z154.f2) (y := z154.f3) (c0 := [.slice none 0 0]) (c1 := [.slice none 0 0]) hd_none row_none row_none List.nodup_nil) List.nodup_nil) List.nodup_nil))
theorem q154_pack {w : World} {S : Nat → FP} {x : S154} {v0 v1 : Value} {j0 j1 : Nat} (hd : ∀ i j k, i ≠ j → S i k → ¬ S j k) (h0 : (Zd.slice 9 Zd.string).M w (S j0) x.f2 [v0]) (h1 : (Zd.slice 9 Zd.string).M w (S j1) x.f3 [v1]) (hn : [j0, j1].Nodup) : q154.M w (fun k => ∃ i, i ∈ [j0, j1] ∧ S i k) x [.int .i64 x.f0, .int .i64 x.f1, v0, v1] := ((pair_app (a := (Zd.int .i64)) (b := (Zd.pair (Zd.int .i64) (Zd.pair (Zd.slice 9 Zd.string) (Zd.slice 9 Zd.string)))) (w := w) (S := S) (js1 := []) (js2 := [j0, j1]) (x := x.f0) (y := (x.f1, (x.f2, x.f3))) (c0 := [.int .i64 x.f0]) (c1 := [.int .i64 x.f1, v0, v1]) hd rfl (pair_app (a := (Zd.int .i64)) (b := (Zd.pair (Zd.slice 9 Zd.string) (Zd.slice 9 Zd.string))) (w := w) (S := S) (js1 := []) (js2 := [j0, j1]) (x := x.f1) (y := (x.f2, x.f3)) (c0 := [.int .i64 x.f1]) (c1 := [v0, v1]) hd rfl (pair_app (a := (Zd.slice 9 Zd.string)) (b := (Zd.slice 9 Zd.string)) (w := w) (S := S) (js1 := [j0]) (js2 := [j1]) (x := x.f2) (y := x.f3) (c0 := [v0]) (c1 := [v1]) hd (made_one h0) (made_one h1) hn) hn) hn))
theorem q110_pack {w : World} {S : Nat → FP} {x : S110} {v0 : Value} {j0 : Nat} (hd : ∀ i j k, i ≠ j → S i k → ¬ S j k) (h0 : (Zd.slice 110 q110).M w (S j0) x.f2 [v0]) (hn : [j0].Nodup) : q110.M w (fun k => ∃ i, i ∈ [j0] ∧ S i k) x [.int .i64 x.f0, .string x.f1, v0] := (q110_fold (pair_app (a := (Zd.int .i64)) (b := (Zd.pair Zd.string (Zd.slice 110 q110))) (w := w) (S := S) (js1 := []) (js2 := [j0]) (x := x.f0) (y := (x.f1, x.f2)) (c0 := [.int .i64 x.f0]) (c1 := [.string x.f1, v0]) hd rfl (pair_app (a := Zd.string) (b := (Zd.slice 110 q110)) (w := w) (S := S) (js1 := []) (js2 := [j0]) (x := x.f1) (y := x.f2) (c0 := [.string x.f1]) (c1 := [v0]) hd rfl (made_one h0) hn) hn))
theorem q118_zero (w : World) (S : FP) : q118.M w S z118 [.int .i64 0, .string (⟨#[]⟩ : ByteArray), .string (⟨#[]⟩ : ByteArray), .int .i64 0, .int .i64 0, .string (⟨#[]⟩ : ByteArray), .bool false, .int .i64 0, .int .i64 0, .slice none 0 0, .slice none 0 0, .slice none 0 0, .string (⟨#[]⟩ : ByteArray)] := made_none (a := q118) ((pair_app (a := (Zd.int .i64)) (b := (Zd.pair Zd.string (Zd.pair Zd.string (Zd.pair (Zd.int .i64) (Zd.pair (Zd.int .i64) (Zd.pair Zd.string (Zd.pair Zd.bool (Zd.pair (Zd.int .i64) (Zd.pair (Zd.int .i64) (Zd.pair (Zd.slice 3 (Zd.int .i64)) (Zd.pair (Zd.slice 9 Zd.string) (Zd.pair (Zd.slice 9 Zd.string) Zd.string)))))))))))) (w := w) (S := (fun (_ : Nat) (_ : Nat) => False)) (js1 := []) (js2 := []) (x := z118.f0) (y := (z118.f1, (z118.f2, (z118.f3, (z118.f4, (z118.f5, (z118.f6, (z118.f7, (z118.f8, (z118.f9, (z118.f10, (z118.f11, z118.f12)))))))))))) (c0 := [.int .i64 0]) (c1 := [.string (⟨#[]⟩ : ByteArray), .string (⟨#[]⟩ : ByteArray), .int .i64 0, .int .i64 0, .string (⟨#[]⟩ : ByteArray), .bool false, .int .i64 0, .int .i64 0, .slice none 0 0, .slice none 0 0, .slice none 0 0, .string (⟨#[]⟩ : ByteArray)]) hd_none rfl (pair_app (a := Zd.string) (b := (Zd.pair Zd.string (Zd.pair (Zd.int .i64) (Zd.pair (Zd.int .i64) (Zd.pair Zd.string (Zd.pair Zd.bool (Zd.pair (Zd.int .i64) (Zd.pair (Zd.int .i64) (Zd.pair (Zd.slice 3 (Zd.int .i64)) (Zd.pair (Zd.slice 9 Zd.string) (Zd.pair (Zd.slice 9 Zd.string) Zd.string))))))))))) (w := w) (S := (fun (_ : Nat) (_ : Nat) => False)) (js1 := []) (js2 := []) (x := z118.f1) (y := (z118.f2, (z118.f3, (z118.f4, (z118.f5, (z118.f6, (z118.f7, (z118.f8, (z118.f9, (z118.f10, (z118.f11, z118.f12))))))))))) (c0 := [.string (⟨#[]⟩ : ByteArray)]) (c1 := [.string (⟨#[]⟩ : ByteArray), .int .i64 0, .int .i64 0, .string (⟨#[]⟩ : ByteArray), .bool false, .int .i64 0, .int .i64 0, .slice none 0 0, .slice none 0 0, .slice none 0 0, .string (⟨#[]⟩ : ByteArray)]) hd_none rfl (pair_app (a := Zd.string) (b := (Zd.pair (Zd.int .i64) (Zd.pair (Zd.int .i64) (Zd.pair Zd.string (Zd.pair Zd.bool (Zd.pair (Zd.int .i64) (Zd.pair (Zd.int .i64) (Zd.pair (Zd.slice 3 (Zd.int .i64)) (Zd.pair (Zd.slice 9 Zd.string) (Zd.pair (Zd.slice 9 Zd.string) Zd.string)))))))))) (w := w) (S := (fun (_ : Nat) (_ : Nat) => False)) (js1 := []) (js2 := []) (x := z118.f2) (y := (z118.f3, (z118.f4, (z118.f5, (z118.f6, (z118.f7, (z118.f8, (z118.f9, (z118.f10, (z118.f11, z118.f12)))))))))) (c0 := [.string (⟨#[]⟩ : ByteArray)]) (c1 := [.int .i64 0, .int .i64 0, .string (⟨#[]⟩ : ByteArray), .bool false, .int .i64 0, .int .i64 0, .slice none 0 0, .slice none 0 0, .slice none 0 0, .string (⟨#[]⟩ : ByteArray)]) hd_none rfl (pair_app (a := (Zd.int .i64)) (b := (Zd.pair (Zd.int .i64) (Zd.pair Zd.string (Zd.pair Zd.bool (Zd.pair (Zd.int .i64) (Zd.pair (Zd.int .i64) (Zd.pair (Zd.slice 3 (Zd.int .i64)) (Zd.pair (Zd.slice 9 Zd.string) (Zd.pair (Zd.slice 9 Zd.string) Zd.string))))))))) (w := w) (S := (fun (_ : Nat) (_ : Nat) => False)) (js1 := []) (js2 := []) (x := z118.f3) (y := (z118.f4, (z118.f5, (z118.f6, (z118.f7, (z118.f8, (z118.f9, (z118.f10, (z118.f11, z118.f12))))))))) (c0 := [.int .i64 0]) (c1 := [.int .i64 0, .string (⟨#[]⟩ : ByteArray), .bool false, .int .i64 0, .int .i64 0, .slice none 0 0, .slice none 0 0, .slice none 0 0, .string (⟨#[]⟩ : ByteArray)]) hd_none rfl (pair_app (a := (Zd.int .i64)) (b := (Zd.pair Zd.string (Zd.pair Zd.bool (Zd.pair (Zd.int .i64) (Zd.pair (Zd.int .i64) (Zd.pair (Zd.slice 3 (Zd.int .i64)) (Zd.pair (Zd.slice 9 Zd.string) (Zd.pair (Zd.slice 9 Zd.string) Zd.string)))))))) (w := w) (S := (fun (_ : Nat) (_ : Nat) => False)) (js1 := []) (js2 := []) (x := z118.f4) (y := (z118.f5, (z118.f6, (z118.f7, (z118.f8, (z118.f9, (z118.f10, (z118.f11, z118.f12)))))))) (c0 := [.int .i64 0]) (c1 := [.string (⟨#[]⟩ : ByteArray), .bool false, .int .i64 0, .int .i64 0, .slice none 0 0, .slice none 0 0, .slice none 0 0, .string (⟨#[]⟩ : ByteArray)]) hd_none rfl (pair_app (a := Zd.string) (b := (Zd.pair Zd.bool (Zd.pair (Zd.int .i64) (Zd.pair (Zd.int .i64) (Zd.pair (Zd.slice 3 (Zd.int .i64)) (Zd.pair (Zd.slice 9 Zd.string) (Zd.pair (Zd.slice 9 Zd.string) Zd.string))))))) (w := w) (S := (fun (_ : Nat) (_ : Nat) => False)) (js1 := []) (js2 := []) (x := z118.f5) (y := (z118.f6, (z118.f7, (z118.f8, (z118.f9, (z118.f10, (z118.f11, z118.f12))))))) (c0 := [.string (⟨#[]⟩ : ByteArray)]) (c1 := [.bool false, .int .i64 0, .int .i64 0, .slice none 0 0, .slice none 0 0, .slice none 0 0, .string (⟨#[]⟩ : ByteArray)]) hd_none rfl (pair_app (a := Zd.bool) (b := (Zd.pair (Zd.int .i64) (Zd.pair (Zd.int .i64) (Zd.pair (Zd.slice 3 (Zd.int .i64)) (Zd.pair (Zd.slice 9 Zd.string) (Zd.pair (Zd.slice 9 Zd.string) Zd.string)))))) (w := w) (S := (fun (_ : Nat) (_ : Nat) => False)) (js1 := []) (js2 := []) (x := z118.f6) (y := (z118.f7, (z118.f8, (z118.f9, (z118.f10, (z118.f11, z118.f12)))))) (c0 := [.bool false]) (c1 := [.int .i64 0, .int .i64 0, .slice none 0 0, .slice none 0 0, .slice none 0 0, .string (⟨#[]⟩ : ByteArray)]) hd_none rfl (pair_app (a := (Zd.int .i64)) (b := (Zd.pair (Zd.int .i64) (Zd.pair (Zd.slice 3 (Zd.int .i64)) (Zd.pair (Zd.slice 9 Zd.string) (Zd.pair (Zd.slice 9 Zd.string) Zd.string))))) (w := w) (S := (fun (_ : Nat) (_ : Nat) => False)) (js1 := []) (js2 := []) (x := z118.f7) (y := (z118.f8, (z118.f9, (z118.f10, (z118.f11, z118.f12))))) (c0 := [.int .i64 0]) (c1 := [.int .i64 0, .slice none 0 0, .slice none 0 0, .slice none 0 0, .string (⟨#[]⟩ : ByteArray)]) hd_none rfl (pair_app (a := (Zd.int .i64)) (b := (Zd.pair (Zd.slice 3 (Zd.int .i64)) (Zd.pair (Zd.slice 9 Zd.string) (Zd.pair (Zd.slice 9 Zd.string) Zd.string)))) (w := w) (S := (fun (_ : Nat) (_ : Nat) => False)) (js1 := []) (js2 := []) (x := z118.f8) (y := (z118.f9, (z118.f10, (z118.f11, z118.f12)))) (c0 := [.int .i64 0]) (c1 := [.slice none 0 0, .slice none 0 0, .slice none 0 0, .string (⟨#[]⟩ : ByteArray)]) hd_none rfl (pair_app (a := (Zd.slice 3 (Zd.int .i64))) (b := (Zd.pair (Zd.slice 9 Zd.string) (Zd.pair (Zd.slice 9 Zd.string) Zd.string))) (w := w) (S := (fun (_ : Nat) (_ : Nat) => False)) (js1 := []) (js2 := []) (x := z118.f9) (y := (z118.f10, (z118.f11, z118.f12))) (c0 := [.slice none 0 0]) (c1 := [.slice none 0 0, .slice none 0 0, .string (⟨#[]⟩ : ByteArray)]) hd_none row_none (pair_app (a := (Zd.slice 9 Zd.string)) (b := (Zd.pair (Zd.slice 9 Zd.string) Zd.string)) (w := w) (S := (fun (_ : Nat) (_ : Nat) => False)) (js1 := []) (js2 := []) (x := z118.f10) (y := (z118.f11, z118.f12)) (c0 := [.slice none 0 0]) (c1 := [.slice none 0 0, .string (⟨#[]⟩ : ByteArray)]) hd_none row_none (pair_app (a := (Zd.slice 9 Zd.string)) (b := Zd.string) (w := w) (S := (fun (_ : Nat) (_ : Nat) => False)) (js1 := []) (js2 := []) (x := z118.f11) (y := z118.f12) (c0 := [.slice none 0 0]) (c1 := [.string (⟨#[]⟩ : ByteArray)]) hd_none row_none rfl List.nodup_nil) List.nodup_nil) List.nodup_nil) List.nodup_nil) List.nodup_nil) List.nodup_nil) List.nodup_nil) List.nodup_nil) List.nodup_nil) List.nodup_nil) List.nodup_nil) List.nodup_nil))
theorem q118_pack {w : World} {S : Nat → FP} {x : S118} {v0 v1 v2 : Value} {j0 j1 j2 : Nat} (hd : ∀ i j k, i ≠ j → S i k → ¬ S j k) (h0 : (Zd.slice 3 (Zd.int .i64)).M w (S j0) x.f9 [v0]) (h1 : (Zd.slice 9 Zd.string).M w (S j1) x.f10 [v1]) (h2 : (Zd.slice 9 Zd.string).M w (S j2) x.f11 [v2]) (hn : [j0, j1, j2].Nodup) : q118.M w (fun k => ∃ i, i ∈ [j0, j1, j2] ∧ S i k) x [.int .i64 x.f0, .string x.f1, .string x.f2, .int .i64 x.f3, .int .i64 x.f4, .string x.f5, .bool x.f6, .int .i64 x.f7, .int .i64 x.f8, v0, v1, v2, .string x.f12] := ((pair_app (a := (Zd.int .i64)) (b := (Zd.pair Zd.string (Zd.pair Zd.string (Zd.pair (Zd.int .i64) (Zd.pair (Zd.int .i64) (Zd.pair Zd.string (Zd.pair Zd.bool (Zd.pair (Zd.int .i64) (Zd.pair (Zd.int .i64) (Zd.pair (Zd.slice 3 (Zd.int .i64)) (Zd.pair (Zd.slice 9 Zd.string) (Zd.pair (Zd.slice 9 Zd.string) Zd.string)))))))))))) (w := w) (S := S) (js1 := []) (js2 := [j0, j1, j2]) (x := x.f0) (y := (x.f1, (x.f2, (x.f3, (x.f4, (x.f5, (x.f6, (x.f7, (x.f8, (x.f9, (x.f10, (x.f11, x.f12)))))))))))) (c0 := [.int .i64 x.f0]) (c1 := [.string x.f1, .string x.f2, .int .i64 x.f3, .int .i64 x.f4, .string x.f5, .bool x.f6, .int .i64 x.f7, .int .i64 x.f8, v0, v1, v2, .string x.f12]) hd rfl (pair_app (a := Zd.string) (b := (Zd.pair Zd.string (Zd.pair (Zd.int .i64) (Zd.pair (Zd.int .i64) (Zd.pair Zd.string (Zd.pair Zd.bool (Zd.pair (Zd.int .i64) (Zd.pair (Zd.int .i64) (Zd.pair (Zd.slice 3 (Zd.int .i64)) (Zd.pair (Zd.slice 9 Zd.string) (Zd.pair (Zd.slice 9 Zd.string) Zd.string))))))))))) (w := w) (S := S) (js1 := []) (js2 := [j0, j1, j2]) (x := x.f1) (y := (x.f2, (x.f3, (x.f4, (x.f5, (x.f6, (x.f7, (x.f8, (x.f9, (x.f10, (x.f11, x.f12))))))))))) (c0 := [.string x.f1]) (c1 := [.string x.f2, .int .i64 x.f3, .int .i64 x.f4, .string x.f5, .bool x.f6, .int .i64 x.f7, .int .i64 x.f8, v0, v1, v2, .string x.f12]) hd rfl (pair_app (a := Zd.string) (b := (Zd.pair (Zd.int .i64) (Zd.pair (Zd.int .i64) (Zd.pair Zd.string (Zd.pair Zd.bool (Zd.pair (Zd.int .i64) (Zd.pair (Zd.int .i64) (Zd.pair (Zd.slice 3 (Zd.int .i64)) (Zd.pair (Zd.slice 9 Zd.string) (Zd.pair (Zd.slice 9 Zd.string) Zd.string)))))))))) (w := w) (S := S) (js1 := []) (js2 := [j0, j1, j2]) (x := x.f2) (y := (x.f3, (x.f4, (x.f5, (x.f6, (x.f7, (x.f8, (x.f9, (x.f10, (x.f11, x.f12)))))))))) (c0 := [.string x.f2]) (c1 := [.int .i64 x.f3, .int .i64 x.f4, .string x.f5, .bool x.f6, .int .i64 x.f7, .int .i64 x.f8, v0, v1, v2, .string x.f12]) hd rfl (pair_app (a := (Zd.int .i64)) (b := (Zd.pair (Zd.int .i64) (Zd.pair Zd.string (Zd.pair Zd.bool (Zd.pair (Zd.int .i64) (Zd.pair (Zd.int .i64) (Zd.pair (Zd.slice 3 (Zd.int .i64)) (Zd.pair (Zd.slice 9 Zd.string) (Zd.pair (Zd.slice 9 Zd.string) Zd.string))))))))) (w := w) (S := S) (js1 := []) (js2 := [j0, j1, j2]) (x := x.f3) (y := (x.f4, (x.f5, (x.f6, (x.f7, (x.f8, (x.f9, (x.f10, (x.f11, x.f12))))))))) (c0 := [.int .i64 x.f3]) (c1 := [.int .i64 x.f4, .string x.f5, .bool x.f6, .int .i64 x.f7, .int .i64 x.f8, v0, v1, v2, .string x.f12]) hd rfl (pair_app (a := (Zd.int .i64)) (b := (Zd.pair Zd.string (Zd.pair Zd.bool (Zd.pair (Zd.int .i64) (Zd.pair (Zd.int .i64) (Zd.pair (Zd.slice 3 (Zd.int .i64)) (Zd.pair (Zd.slice 9 Zd.string) (Zd.pair (Zd.slice 9 Zd.string) Zd.string)))))))) (w := w) (S := S) (js1 := []) (js2 := [j0, j1, j2]) (x := x.f4) (y := (x.f5, (x.f6, (x.f7, (x.f8, (x.f9, (x.f10, (x.f11, x.f12)))))))) (c0 := [.int .i64 x.f4]) (c1 := [.string x.f5, .bool x.f6, .int .i64 x.f7, .int .i64 x.f8, v0, v1, v2, .string x.f12]) hd rfl (pair_app (a := Zd.string) (b := (Zd.pair Zd.bool (Zd.pair (Zd.int .i64) (Zd.pair (Zd.int .i64) (Zd.pair (Zd.slice 3 (Zd.int .i64)) (Zd.pair (Zd.slice 9 Zd.string) (Zd.pair (Zd.slice 9 Zd.string) Zd.string))))))) (w := w) (S := S) (js1 := []) (js2 := [j0, j1, j2]) (x := x.f5) (y := (x.f6, (x.f7, (x.f8, (x.f9, (x.f10, (x.f11, x.f12))))))) (c0 := [.string x.f5]) (c1 := [.bool x.f6, .int .i64 x.f7, .int .i64 x.f8, v0, v1, v2, .string x.f12]) hd rfl (pair_app (a := Zd.bool) (b := (Zd.pair (Zd.int .i64) (Zd.pair (Zd.int .i64) (Zd.pair (Zd.slice 3 (Zd.int .i64)) (Zd.pair (Zd.slice 9 Zd.string) (Zd.pair (Zd.slice 9 Zd.string) Zd.string)))))) (w := w) (S := S) (js1 := []) (js2 := [j0, j1, j2]) (x := x.f6) (y := (x.f7, (x.f8, (x.f9, (x.f10, (x.f11, x.f12)))))) (c0 := [.bool x.f6]) (c1 := [.int .i64 x.f7, .int .i64 x.f8, v0, v1, v2, .string x.f12]) hd rfl (pair_app (a := (Zd.int .i64)) (b := (Zd.pair (Zd.int .i64) (Zd.pair (Zd.slice 3 (Zd.int .i64)) (Zd.pair (Zd.slice 9 Zd.string) (Zd.pair (Zd.slice 9 Zd.string) Zd.string))))) (w := w) (S := S) (js1 := []) (js2 := [j0, j1, j2]) (x := x.f7) (y := (x.f8, (x.f9, (x.f10, (x.f11, x.f12))))) (c0 := [.int .i64 x.f7]) (c1 := [.int .i64 x.f8, v0, v1, v2, .string x.f12]) hd rfl (pair_app (a := (Zd.int .i64)) (b := (Zd.pair (Zd.slice 3 (Zd.int .i64)) (Zd.pair (Zd.slice 9 Zd.string) (Zd.pair (Zd.slice 9 Zd.string) Zd.string)))) (w := w) (S := S) (js1 := []) (js2 := [j0, j1, j2]) (x := x.f8) (y := (x.f9, (x.f10, (x.f11, x.f12)))) (c0 := [.int .i64 x.f8]) (c1 := [v0, v1, v2, .string x.f12]) hd rfl (pair_app (a := (Zd.slice 3 (Zd.int .i64))) (b := (Zd.pair (Zd.slice 9 Zd.string) (Zd.pair (Zd.slice 9 Zd.string) Zd.string))) (w := w) (S := S) (js1 := [j0]) (js2 := [j1, j2]) (x := x.f9) (y := (x.f10, (x.f11, x.f12))) (c0 := [v0]) (c1 := [v1, v2, .string x.f12]) hd (made_one h0) (pair_app (a := (Zd.slice 9 Zd.string)) (b := (Zd.pair (Zd.slice 9 Zd.string) Zd.string)) (w := w) (S := S) (js1 := [j1]) (js2 := [j2]) (x := x.f10) (y := (x.f11, x.f12)) (c0 := [v1]) (c1 := [v2, .string x.f12]) hd (made_one h1) (pair_app (a := (Zd.slice 9 Zd.string)) (b := Zd.string) (w := w) (S := S) (js1 := [j2]) (js2 := []) (x := x.f11) (y := x.f12) (c0 := [v2]) (c1 := [.string x.f12]) hd (made_one h2) rfl (nod_drop 2 hn)) (nod_drop 1 hn)) hn) hn) hn) hn) hn) hn) hn) hn) hn) hn))
theorem q222_zero (w : World) (S : FP) : q222.M w S z222 [.int .i64 0, .int .i64 0] := made_none (a := q222) ((pair_app (a := (Zd.int .i64)) (b := (Zd.int .i64)) (w := w) (S := (fun (_ : Nat) (_ : Nat) => False)) (js1 := []) (js2 := []) (x := z222.f0) (y := z222.f1) (c0 := [.int .i64 0]) (c1 := [.int .i64 0]) hd_none rfl rfl List.nodup_nil))
theorem q222_flat (w : World) (S : FP) (x : S222) : q222.M w S x [.int .i64 x.f0, .int .i64 x.f1] := made_none (a := q222) ((pair_app (a := (Zd.int .i64)) (b := (Zd.int .i64)) (w := w) (S := (fun (_ : Nat) (_ : Nat) => False)) (js1 := []) (js2 := []) (x := x.f0) (y := x.f1) (c0 := [.int .i64 x.f0]) (c1 := [.int .i64 x.f1]) hd_none rfl rfl List.nodup_nil))
theorem q198_zero (w : World) (S : FP) : q198.M w S z198 [.string (⟨#[]⟩ : ByteArray), .int .i64 0, .int .i64 0, .int .i64 0, .int .i64 0, .slice none 0 0, .string (⟨#[]⟩ : ByteArray)] := made_none (a := q198) ((pair_app (a := Zd.string) (b := (Zd.pair (Zd.int .i64) (Zd.pair (Zd.int .i64) (Zd.pair (Zd.int .i64) (Zd.pair (Zd.int .i64) (Zd.pair (Zd.slice 222 q222) Zd.string)))))) (w := w) (S := (fun (_ : Nat) (_ : Nat) => False)) (js1 := []) (js2 := []) (x := z198.f0) (y := (z198.f1, (z198.f2, (z198.f3, (z198.f4, (z198.f5, z198.f6)))))) (c0 := [.string (⟨#[]⟩ : ByteArray)]) (c1 := [.int .i64 0, .int .i64 0, .int .i64 0, .int .i64 0, .slice none 0 0, .string (⟨#[]⟩ : ByteArray)]) hd_none rfl (pair_app (a := (Zd.int .i64)) (b := (Zd.pair (Zd.int .i64) (Zd.pair (Zd.int .i64) (Zd.pair (Zd.int .i64) (Zd.pair (Zd.slice 222 q222) Zd.string))))) (w := w) (S := (fun (_ : Nat) (_ : Nat) => False)) (js1 := []) (js2 := []) (x := z198.f1) (y := (z198.f2, (z198.f3, (z198.f4, (z198.f5, z198.f6))))) (c0 := [.int .i64 0]) (c1 := [.int .i64 0, .int .i64 0, .int .i64 0, .slice none 0 0, .string (⟨#[]⟩ : ByteArray)]) hd_none rfl (pair_app (a := (Zd.int .i64)) (b := (Zd.pair (Zd.int .i64) (Zd.pair (Zd.int .i64) (Zd.pair (Zd.slice 222 q222) Zd.string)))) (w := w) (S := (fun (_ : Nat) (_ : Nat) => False)) (js1 := []) (js2 := []) (x := z198.f2) (y := (z198.f3, (z198.f4, (z198.f5, z198.f6)))) (c0 := [.int .i64 0]) (c1 := [.int .i64 0, .int .i64 0, .slice none 0 0, .string (⟨#[]⟩ : ByteArray)]) hd_none rfl (pair_app (a := (Zd.int .i64)) (b := (Zd.pair (Zd.int .i64) (Zd.pair (Zd.slice 222 q222) Zd.string))) (w := w) (S := (fun (_ : Nat) (_ : Nat) => False)) (js1 := []) (js2 := []) (x := z198.f3) (y := (z198.f4, (z198.f5, z198.f6))) (c0 := [.int .i64 0]) (c1 := [.int .i64 0, .slice none 0 0, .string (⟨#[]⟩ : ByteArray)]) hd_none rfl (pair_app (a := (Zd.int .i64)) (b := (Zd.pair (Zd.slice 222 q222) Zd.string)) (w := w) (S := (fun (_ : Nat) (_ : Nat) => False)) (js1 := []) (js2 := []) (x := z198.f4) (y := (z198.f5, z198.f6)) (c0 := [.int .i64 0]) (c1 := [.slice none 0 0, .string (⟨#[]⟩ : ByteArray)]) hd_none rfl (pair_app (a := (Zd.slice 222 q222)) (b := Zd.string) (w := w) (S := (fun (_ : Nat) (_ : Nat) => False)) (js1 := []) (js2 := []) (x := z198.f5) (y := z198.f6) (c0 := [.slice none 0 0]) (c1 := [.string (⟨#[]⟩ : ByteArray)]) hd_none row_none rfl List.nodup_nil) List.nodup_nil) List.nodup_nil) List.nodup_nil) List.nodup_nil) List.nodup_nil))
theorem q198_pack {w : World} {S : Nat → FP} {x : S198} {v0 : Value} {j0 : Nat} (hd : ∀ i j k, i ≠ j → S i k → ¬ S j k) (h0 : (Zd.slice 222 q222).M w (S j0) x.f5 [v0]) (hn : [j0].Nodup) : q198.M w (fun k => ∃ i, i ∈ [j0] ∧ S i k) x [.string x.f0, .int .i64 x.f1, .int .i64 x.f2, .int .i64 x.f3, .int .i64 x.f4, v0, .string x.f6] := ((pair_app (a := Zd.string) (b := (Zd.pair (Zd.int .i64) (Zd.pair (Zd.int .i64) (Zd.pair (Zd.int .i64) (Zd.pair (Zd.int .i64) (Zd.pair (Zd.slice 222 q222) Zd.string)))))) (w := w) (S := S) (js1 := []) (js2 := [j0]) (x := x.f0) (y := (x.f1, (x.f2, (x.f3, (x.f4, (x.f5, x.f6)))))) (c0 := [.string x.f0]) (c1 := [.int .i64 x.f1, .int .i64 x.f2, .int .i64 x.f3, .int .i64 x.f4, v0, .string x.f6]) hd rfl (pair_app (a := (Zd.int .i64)) (b := (Zd.pair (Zd.int .i64) (Zd.pair (Zd.int .i64) (Zd.pair (Zd.int .i64) (Zd.pair (Zd.slice 222 q222) Zd.string))))) (w := w) (S := S) (js1 := []) (js2 := [j0]) (x := x.f1) (y := (x.f2, (x.f3, (x.f4, (x.f5, x.f6))))) (c0 := [.int .i64 x.f1]) (c1 := [.int .i64 x.f2, .int .i64 x.f3, .int .i64 x.f4, v0, .string x.f6]) hd rfl (pair_app (a := (Zd.int .i64)) (b := (Zd.pair (Zd.int .i64) (Zd.pair (Zd.int .i64) (Zd.pair (Zd.slice 222 q222) Zd.string)))) (w := w) (S := S) (js1 := []) (js2 := [j0]) (x := x.f2) (y := (x.f3, (x.f4, (x.f5, x.f6)))) (c0 := [.int .i64 x.f2]) (c1 := [.int .i64 x.f3, .int .i64 x.f4, v0, .string x.f6]) hd rfl (pair_app (a := (Zd.int .i64)) (b := (Zd.pair (Zd.int .i64) (Zd.pair (Zd.slice 222 q222) Zd.string))) (w := w) (S := S) (js1 := []) (js2 := [j0]) (x := x.f3) (y := (x.f4, (x.f5, x.f6))) (c0 := [.int .i64 x.f3]) (c1 := [.int .i64 x.f4, v0, .string x.f6]) hd rfl (pair_app (a := (Zd.int .i64)) (b := (Zd.pair (Zd.slice 222 q222) Zd.string)) (w := w) (S := S) (js1 := []) (js2 := [j0]) (x := x.f4) (y := (x.f5, x.f6)) (c0 := [.int .i64 x.f4]) (c1 := [v0, .string x.f6]) hd rfl (pair_app (a := (Zd.slice 222 q222)) (b := Zd.string) (w := w) (S := S) (js1 := [j0]) (js2 := []) (x := x.f5) (y := x.f6) (c0 := [v0]) (c1 := [.string x.f6]) hd (made_one h0) rfl hn) hn) hn) hn) hn) hn))
theorem q200_zero (w : World) (S : FP) : q200.M w S z200 [.string (⟨#[]⟩ : ByteArray), .string (⟨#[]⟩ : ByteArray)] := made_none (a := q200) ((pair_app (a := Zd.string) (b := Zd.string) (w := w) (S := (fun (_ : Nat) (_ : Nat) => False)) (js1 := []) (js2 := []) (x := z200.f0) (y := z200.f1) (c0 := [.string (⟨#[]⟩ : ByteArray)]) (c1 := [.string (⟨#[]⟩ : ByteArray)]) hd_none rfl rfl List.nodup_nil))
theorem q200_flat (w : World) (S : FP) (x : S200) : q200.M w S x [.string x.f0, .string x.f1] := made_none (a := q200) ((pair_app (a := Zd.string) (b := Zd.string) (w := w) (S := (fun (_ : Nat) (_ : Nat) => False)) (js1 := []) (js2 := []) (x := x.f0) (y := x.f1) (c0 := [.string x.f0]) (c1 := [.string x.f1]) hd_none rfl rfl List.nodup_nil))
theorem q165_zero (w : World) (S : FP) : q165.M w S z165 [.int .i64 0, .slice none 0 0, .int .i64 0, .slice none 0 0, .bool false, .bool false, .int .i64 0] := made_none (a := q165) ((pair_app (a := (Zd.int .i64)) (b := (Zd.pair (Zd.slice 3 (Zd.int .i64)) q163)) (w := w) (S := (fun (_ : Nat) (_ : Nat) => False)) (js1 := []) (js2 := []) (x := z165.f0) (y := (z165.f1, z165.f2)) (c0 := [.int .i64 0]) (c1 := [.slice none 0 0, .int .i64 0, .slice none 0 0, .bool false, .bool false, .int .i64 0]) hd_none rfl (pair_app (a := (Zd.slice 3 (Zd.int .i64))) (b := q163) (w := w) (S := (fun (_ : Nat) (_ : Nat) => False)) (js1 := []) (js2 := []) (x := z165.f1) (y := z165.f2) (c0 := [.slice none 0 0]) (c1 := [.int .i64 0, .slice none 0 0, .bool false, .bool false, .int .i64 0]) hd_none row_none (pair_app (a := (Zd.int .i64)) (b := (Zd.pair (Zd.slice 3 (Zd.int .i64)) (Zd.pair Zd.bool (Zd.pair Zd.bool (Zd.int .i64))))) (w := w) (S := (fun (_ : Nat) (_ : Nat) => False)) (js1 := []) (js2 := []) (x := z165.f2.f0) (y := (z165.f2.f1, (z165.f2.f2, (z165.f2.f3, z165.f2.f4)))) (c0 := [.int .i64 0]) (c1 := [.slice none 0 0, .bool false, .bool false, .int .i64 0]) hd_none rfl (pair_app (a := (Zd.slice 3 (Zd.int .i64))) (b := (Zd.pair Zd.bool (Zd.pair Zd.bool (Zd.int .i64)))) (w := w) (S := (fun (_ : Nat) (_ : Nat) => False)) (js1 := []) (js2 := []) (x := z165.f2.f1) (y := (z165.f2.f2, (z165.f2.f3, z165.f2.f4))) (c0 := [.slice none 0 0]) (c1 := [.bool false, .bool false, .int .i64 0]) hd_none row_none (pair_app (a := Zd.bool) (b := (Zd.pair Zd.bool (Zd.int .i64))) (w := w) (S := (fun (_ : Nat) (_ : Nat) => False)) (js1 := []) (js2 := []) (x := z165.f2.f2) (y := (z165.f2.f3, z165.f2.f4)) (c0 := [.bool false]) (c1 := [.bool false, .int .i64 0]) hd_none rfl (pair_app (a := Zd.bool) (b := (Zd.int .i64)) (w := w) (S := (fun (_ : Nat) (_ : Nat) => False)) (js1 := []) (js2 := []) (x := z165.f2.f3) (y := z165.f2.f4) (c0 := [.bool false]) (c1 := [.int .i64 0]) hd_none rfl rfl List.nodup_nil) List.nodup_nil) List.nodup_nil) List.nodup_nil) List.nodup_nil) List.nodup_nil))
theorem q165_pack {w : World} {S : Nat → FP} {x : S165} {v0 v1 : Value} {j0 j1 : Nat} (hd : ∀ i j k, i ≠ j → S i k → ¬ S j k) (h0 : (Zd.slice 3 (Zd.int .i64)).M w (S j0) x.f1 [v0]) (h1 : (Zd.slice 3 (Zd.int .i64)).M w (S j1) x.f2.f1 [v1]) (hn : [j0, j1].Nodup) : q165.M w (fun k => ∃ i, i ∈ [j0, j1] ∧ S i k) x [.int .i64 x.f0, v0, .int .i64 x.f2.f0, v1, .bool x.f2.f2, .bool x.f2.f3, .int .i64 x.f2.f4] := ((pair_app (a := (Zd.int .i64)) (b := (Zd.pair (Zd.slice 3 (Zd.int .i64)) q163)) (w := w) (S := S) (js1 := []) (js2 := [j0, j1]) (x := x.f0) (y := (x.f1, x.f2)) (c0 := [.int .i64 x.f0]) (c1 := [v0, .int .i64 x.f2.f0, v1, .bool x.f2.f2, .bool x.f2.f3, .int .i64 x.f2.f4]) hd rfl (pair_app (a := (Zd.slice 3 (Zd.int .i64))) (b := q163) (w := w) (S := S) (js1 := [j0]) (js2 := [j1]) (x := x.f1) (y := x.f2) (c0 := [v0]) (c1 := [.int .i64 x.f2.f0, v1, .bool x.f2.f2, .bool x.f2.f3, .int .i64 x.f2.f4]) hd (made_one h0) (pair_app (a := (Zd.int .i64)) (b := (Zd.pair (Zd.slice 3 (Zd.int .i64)) (Zd.pair Zd.bool (Zd.pair Zd.bool (Zd.int .i64))))) (w := w) (S := S) (js1 := []) (js2 := [j1]) (x := x.f2.f0) (y := (x.f2.f1, (x.f2.f2, (x.f2.f3, x.f2.f4)))) (c0 := [.int .i64 x.f2.f0]) (c1 := [v1, .bool x.f2.f2, .bool x.f2.f3, .int .i64 x.f2.f4]) hd rfl (pair_app (a := (Zd.slice 3 (Zd.int .i64))) (b := (Zd.pair Zd.bool (Zd.pair Zd.bool (Zd.int .i64)))) (w := w) (S := S) (js1 := [j1]) (js2 := []) (x := x.f2.f1) (y := (x.f2.f2, (x.f2.f3, x.f2.f4))) (c0 := [v1]) (c1 := [.bool x.f2.f2, .bool x.f2.f3, .int .i64 x.f2.f4]) hd (made_one h1) (pair_app (a := Zd.bool) (b := (Zd.pair Zd.bool (Zd.int .i64))) (w := w) (S := S) (js1 := []) (js2 := []) (x := x.f2.f2) (y := (x.f2.f3, x.f2.f4)) (c0 := [.bool x.f2.f2]) (c1 := [.bool x.f2.f3, .int .i64 x.f2.f4]) hd rfl (pair_app (a := Zd.bool) (b := (Zd.int .i64)) (w := w) (S := S) (js1 := []) (js2 := []) (x := x.f2.f3) (y := x.f2.f4) (c0 := [.bool x.f2.f3]) (c1 := [.int .i64 x.f2.f4]) hd rfl rfl List.nodup_nil) List.nodup_nil) (nod_drop 1 hn)) (nod_drop 1 hn)) hn) hn))
theorem q167_zero (w : World) (S : FP) : q167.M w S z167 [.string (⟨#[]⟩ : ByteArray), .string (⟨#[]⟩ : ByteArray), .int .i64 0] := made_none (a := q167) ((pair_app (a := Zd.string) (b := (Zd.pair Zd.string (Zd.int .i64))) (w := w) (S := (fun (_ : Nat) (_ : Nat) => False)) (js1 := []) (js2 := []) (x := z167.f0) (y := (z167.f1, z167.f2)) (c0 := [.string (⟨#[]⟩ : ByteArray)]) (c1 := [.string (⟨#[]⟩ : ByteArray), .int .i64 0]) hd_none rfl (pair_app (a := Zd.string) (b := (Zd.int .i64)) (w := w) (S := (fun (_ : Nat) (_ : Nat) => False)) (js1 := []) (js2 := []) (x := z167.f1) (y := z167.f2) (c0 := [.string (⟨#[]⟩ : ByteArray)]) (c1 := [.int .i64 0]) hd_none rfl rfl List.nodup_nil) List.nodup_nil))
theorem q167_flat (w : World) (S : FP) (x : S167) : q167.M w S x [.string x.f0, .string x.f1, .int .i64 x.f2] := made_none (a := q167) ((pair_app (a := Zd.string) (b := (Zd.pair Zd.string (Zd.int .i64))) (w := w) (S := (fun (_ : Nat) (_ : Nat) => False)) (js1 := []) (js2 := []) (x := x.f0) (y := (x.f1, x.f2)) (c0 := [.string x.f0]) (c1 := [.string x.f1, .int .i64 x.f2]) hd_none rfl (pair_app (a := Zd.string) (b := (Zd.int .i64)) (w := w) (S := (fun (_ : Nat) (_ : Nat) => False)) (js1 := []) (js2 := []) (x := x.f1) (y := x.f2) (c0 := [.string x.f1]) (c1 := [.int .i64 x.f2]) hd_none rfl rfl List.nodup_nil) List.nodup_nil))
theorem q169_zero (w : World) (S : FP) : q169.M w S z169 [.int .i64 0, .int .i64 0, .string (⟨#[]⟩ : ByteArray), .int .i64 0] := made_none (a := q169) ((pair_app (a := (Zd.int .i64)) (b := (Zd.pair (Zd.int .i64) (Zd.pair Zd.string (Zd.int .i64)))) (w := w) (S := (fun (_ : Nat) (_ : Nat) => False)) (js1 := []) (js2 := []) (x := z169.f0) (y := (z169.f1, (z169.f2, z169.f3))) (c0 := [.int .i64 0]) (c1 := [.int .i64 0, .string (⟨#[]⟩ : ByteArray), .int .i64 0]) hd_none rfl (pair_app (a := (Zd.int .i64)) (b := (Zd.pair Zd.string (Zd.int .i64))) (w := w) (S := (fun (_ : Nat) (_ : Nat) => False)) (js1 := []) (js2 := []) (x := z169.f1) (y := (z169.f2, z169.f3)) (c0 := [.int .i64 0]) (c1 := [.string (⟨#[]⟩ : ByteArray), .int .i64 0]) hd_none rfl (pair_app (a := Zd.string) (b := (Zd.int .i64)) (w := w) (S := (fun (_ : Nat) (_ : Nat) => False)) (js1 := []) (js2 := []) (x := z169.f2) (y := z169.f3) (c0 := [.string (⟨#[]⟩ : ByteArray)]) (c1 := [.int .i64 0]) hd_none rfl rfl List.nodup_nil) List.nodup_nil) List.nodup_nil))
theorem q169_flat (w : World) (S : FP) (x : S169) : q169.M w S x [.int .i64 x.f0, .int .i64 x.f1, .string x.f2, .int .i64 x.f3] := made_none (a := q169) ((pair_app (a := (Zd.int .i64)) (b := (Zd.pair (Zd.int .i64) (Zd.pair Zd.string (Zd.int .i64)))) (w := w) (S := (fun (_ : Nat) (_ : Nat) => False)) (js1 := []) (js2 := []) (x := x.f0) (y := (x.f1, (x.f2, x.f3))) (c0 := [.int .i64 x.f0]) (c1 := [.int .i64 x.f1, .string x.f2, .int .i64 x.f3]) hd_none rfl (pair_app (a := (Zd.int .i64)) (b := (Zd.pair Zd.string (Zd.int .i64))) (w := w) (S := (fun (_ : Nat) (_ : Nat) => False)) (js1 := []) (js2 := []) (x := x.f1) (y := (x.f2, x.f3)) (c0 := [.int .i64 x.f1]) (c1 := [.string x.f2, .int .i64 x.f3]) hd_none rfl (pair_app (a := Zd.string) (b := (Zd.int .i64)) (w := w) (S := (fun (_ : Nat) (_ : Nat) => False)) (js1 := []) (js2 := []) (x := x.f2) (y := x.f3) (c0 := [.string x.f2]) (c1 := [.int .i64 x.f3]) hd_none rfl rfl List.nodup_nil) List.nodup_nil) List.nodup_nil))
theorem q76_zero (w : World) (S : FP) : q76.M w S z76 [.int .i64 0, .string (⟨#[]⟩ : ByteArray), .int .i64 0, .int .i64 0, .int .i64 0, .int .i64 0, .int .i64 0, .slice none 0 0, .string (⟨#[]⟩ : ByteArray)] := made_none (a := q76) ((pair_app (a := (Zd.int .i64)) (b := q74) (w := w) (S := (fun (_ : Nat) (_ : Nat) => False)) (js1 := []) (js2 := []) (x := z76.f0) (y := z76.f1) (c0 := [.int .i64 0]) (c1 := [.string (⟨#[]⟩ : ByteArray), .int .i64 0, .int .i64 0, .int .i64 0, .int .i64 0, .int .i64 0, .slice none 0 0, .string (⟨#[]⟩ : ByteArray)]) hd_none rfl (pair_app (a := Zd.string) (b := (Zd.pair (Zd.int .i64) (Zd.pair (Zd.int .i64) (Zd.pair (Zd.int .i64) (Zd.pair (Zd.int .i64) (Zd.pair (Zd.int .i64) (Zd.pair (Zd.slice 154 q154) Zd.string))))))) (w := w) (S := (fun (_ : Nat) (_ : Nat) => False)) (js1 := []) (js2 := []) (x := z76.f1.f0) (y := (z76.f1.f1, (z76.f1.f2, (z76.f1.f3, (z76.f1.f4, (z76.f1.f5, (z76.f1.f6, z76.f1.f7))))))) (c0 := [.string (⟨#[]⟩ : ByteArray)]) (c1 := [.int .i64 0, .int .i64 0, .int .i64 0, .int .i64 0, .int .i64 0, .slice none 0 0, .string (⟨#[]⟩ : ByteArray)]) hd_none rfl (pair_app (a := (Zd.int .i64)) (b := (Zd.pair (Zd.int .i64) (Zd.pair (Zd.int .i64) (Zd.pair (Zd.int .i64) (Zd.pair (Zd.int .i64) (Zd.pair (Zd.slice 154 q154) Zd.string)))))) (w := w) (S := (fun (_ : Nat) (_ : Nat) => False)) (js1 := []) (js2 := []) (x := z76.f1.f1) (y := (z76.f1.f2, (z76.f1.f3, (z76.f1.f4, (z76.f1.f5, (z76.f1.f6, z76.f1.f7)))))) (c0 := [.int .i64 0]) (c1 := [.int .i64 0, .int .i64 0, .int .i64 0, .int .i64 0, .slice none 0 0, .string (⟨#[]⟩ : ByteArray)]) hd_none rfl (pair_app (a := (Zd.int .i64)) (b := (Zd.pair (Zd.int .i64) (Zd.pair (Zd.int .i64) (Zd.pair (Zd.int .i64) (Zd.pair (Zd.slice 154 q154) Zd.string))))) (w := w) (S := (fun (_ : Nat) (_ : Nat) => False)) (js1 := []) (js2 := []) (x := z76.f1.f2) (y := (z76.f1.f3, (z76.f1.f4, (z76.f1.f5, (z76.f1.f6, z76.f1.f7))))) (c0 := [.int .i64 0]) (c1 := [.int .i64 0, .int .i64 0, .int .i64 0, .slice none 0 0, .string (⟨#[]⟩ : ByteArray)]) hd_none rfl (pair_app (a := (Zd.int .i64)) (b := (Zd.pair (Zd.int .i64) (Zd.pair (Zd.int .i64) (Zd.pair (Zd.slice 154 q154) Zd.string)))) (w := w) (S := (fun (_ : Nat) (_ : Nat) => False)) (js1 := []) (js2 := []) (x := z76.f1.f3) (y := (z76.f1.f4, (z76.f1.f5, (z76.f1.f6, z76.f1.f7)))) (c0 := [.int .i64 0]) (c1 := [.int .i64 0, .int .i64 0, .slice none 0 0, .string (⟨#[]⟩ : ByteArray)]) hd_none rfl (pair_app (a := (Zd.int .i64)) (b := (Zd.pair (Zd.int .i64) (Zd.pair (Zd.slice 154 q154) Zd.string))) (w := w) (S := (fun (_ : Nat) (_ : Nat) => False)) (js1 := []) (js2 := []) (x := z76.f1.f4) (y := (z76.f1.f5, (z76.f1.f6, z76.f1.f7))) (c0 := [.int .i64 0]) (c1 := [.int .i64 0, .slice none 0 0, .string (⟨#[]⟩ : ByteArray)]) hd_none rfl (pair_app (a := (Zd.int .i64)) (b := (Zd.pair (Zd.slice 154 q154) Zd.string)) (w := w) (S := (fun (_ : Nat) (_ : Nat) => False)) (js1 := []) (js2 := []) (x := z76.f1.f5) (y := (z76.f1.f6, z76.f1.f7)) (c0 := [.int .i64 0]) (c1 := [.slice none 0 0, .string (⟨#[]⟩ : ByteArray)]) hd_none rfl (pair_app (a := (Zd.slice 154 q154)) (b := Zd.string) (w := w) (S := (fun (_ : Nat) (_ : Nat) => False)) (js1 := []) (js2 := []) (x := z76.f1.f6) (y := z76.f1.f7) (c0 := [.slice none 0 0]) (c1 := [.string (⟨#[]⟩ : ByteArray)]) hd_none row_none rfl List.nodup_nil) List.nodup_nil) List.nodup_nil) List.nodup_nil) List.nodup_nil) List.nodup_nil) List.nodup_nil) List.nodup_nil))
theorem q76_pack {w : World} {S : Nat → FP} {x : S76} {v0 : Value} {j0 : Nat} (hd : ∀ i j k, i ≠ j → S i k → ¬ S j k) (h0 : (Zd.slice 154 q154).M w (S j0) x.f1.f6 [v0]) (hn : [j0].Nodup) : q76.M w (fun k => ∃ i, i ∈ [j0] ∧ S i k) x [.int .i64 x.f0, .string x.f1.f0, .int .i64 x.f1.f1, .int .i64 x.f1.f2, .int .i64 x.f1.f3, .int .i64 x.f1.f4, .int .i64 x.f1.f5, v0, .string x.f1.f7] := ((pair_app (a := (Zd.int .i64)) (b := q74) (w := w) (S := S) (js1 := []) (js2 := [j0]) (x := x.f0) (y := x.f1) (c0 := [.int .i64 x.f0]) (c1 := [.string x.f1.f0, .int .i64 x.f1.f1, .int .i64 x.f1.f2, .int .i64 x.f1.f3, .int .i64 x.f1.f4, .int .i64 x.f1.f5, v0, .string x.f1.f7]) hd rfl (pair_app (a := Zd.string) (b := (Zd.pair (Zd.int .i64) (Zd.pair (Zd.int .i64) (Zd.pair (Zd.int .i64) (Zd.pair (Zd.int .i64) (Zd.pair (Zd.int .i64) (Zd.pair (Zd.slice 154 q154) Zd.string))))))) (w := w) (S := S) (js1 := []) (js2 := [j0]) (x := x.f1.f0) (y := (x.f1.f1, (x.f1.f2, (x.f1.f3, (x.f1.f4, (x.f1.f5, (x.f1.f6, x.f1.f7))))))) (c0 := [.string x.f1.f0]) (c1 := [.int .i64 x.f1.f1, .int .i64 x.f1.f2, .int .i64 x.f1.f3, .int .i64 x.f1.f4, .int .i64 x.f1.f5, v0, .string x.f1.f7]) hd rfl (pair_app (a := (Zd.int .i64)) (b := (Zd.pair (Zd.int .i64) (Zd.pair (Zd.int .i64) (Zd.pair (Zd.int .i64) (Zd.pair (Zd.int .i64) (Zd.pair (Zd.slice 154 q154) Zd.string)))))) (w := w) (S := S) (js1 := []) (js2 := [j0]) (x := x.f1.f1) (y := (x.f1.f2, (x.f1.f3, (x.f1.f4, (x.f1.f5, (x.f1.f6, x.f1.f7)))))) (c0 := [.int .i64 x.f1.f1]) (c1 := [.int .i64 x.f1.f2, .int .i64 x.f1.f3, .int .i64 x.f1.f4, .int .i64 x.f1.f5, v0, .string x.f1.f7]) hd rfl (pair_app (a := (Zd.int .i64)) (b := (Zd.pair (Zd.int .i64) (Zd.pair (Zd.int .i64) (Zd.pair (Zd.int .i64) (Zd.pair (Zd.slice 154 q154) Zd.string))))) (w := w) (S := S) (js1 := []) (js2 := [j0]) (x := x.f1.f2) (y := (x.f1.f3, (x.f1.f4, (x.f1.f5, (x.f1.f6, x.f1.f7))))) (c0 := [.int .i64 x.f1.f2]) (c1 := [.int .i64 x.f1.f3, .int .i64 x.f1.f4, .int .i64 x.f1.f5, v0, .string x.f1.f7]) hd rfl (pair_app (a := (Zd.int .i64)) (b := (Zd.pair (Zd.int .i64) (Zd.pair (Zd.int .i64) (Zd.pair (Zd.slice 154 q154) Zd.string)))) (w := w) (S := S) (js1 := []) (js2 := [j0]) (x := x.f1.f3) (y := (x.f1.f4, (x.f1.f5, (x.f1.f6, x.f1.f7)))) (c0 := [.int .i64 x.f1.f3]) (c1 := [.int .i64 x.f1.f4, .int .i64 x.f1.f5, v0, .string x.f1.f7]) hd rfl (pair_app (a := (Zd.int .i64)) (b := (Zd.pair (Zd.int .i64) (Zd.pair (Zd.slice 154 q154) Zd.string))) (w := w) (S := S) (js1 := []) (js2 := [j0]) (x := x.f1.f4) (y := (x.f1.f5, (x.f1.f6, x.f1.f7))) (c0 := [.int .i64 x.f1.f4]) (c1 := [.int .i64 x.f1.f5, v0, .string x.f1.f7]) hd rfl (pair_app (a := (Zd.int .i64)) (b := (Zd.pair (Zd.slice 154 q154) Zd.string)) (w := w) (S := S) (js1 := []) (js2 := [j0]) (x := x.f1.f5) (y := (x.f1.f6, x.f1.f7)) (c0 := [.int .i64 x.f1.f5]) (c1 := [v0, .string x.f1.f7]) hd rfl (pair_app (a := (Zd.slice 154 q154)) (b := Zd.string) (w := w) (S := S) (js1 := [j0]) (js2 := []) (x := x.f1.f6) (y := x.f1.f7) (c0 := [v0]) (c1 := [.string x.f1.f7]) hd (made_one h0) rfl hn) hn) hn) hn) hn) hn) hn) hn))
theorem q120_zero (w : World) (S : FP) : q120.M w S z120 [.bool false, .string (⟨#[]⟩ : ByteArray)] := made_none (a := q120) ((pair_app (a := Zd.bool) (b := Zd.string) (w := w) (S := (fun (_ : Nat) (_ : Nat) => False)) (js1 := []) (js2 := []) (x := z120.f0) (y := z120.f1) (c0 := [.bool false]) (c1 := [.string (⟨#[]⟩ : ByteArray)]) hd_none rfl rfl List.nodup_nil))
theorem q120_flat (w : World) (S : FP) (x : S120) : q120.M w S x [.bool x.f0, .string x.f1] := made_none (a := q120) ((pair_app (a := Zd.bool) (b := Zd.string) (w := w) (S := (fun (_ : Nat) (_ : Nat) => False)) (js1 := []) (js2 := []) (x := x.f0) (y := x.f1) (c0 := [.bool x.f0]) (c1 := [.string x.f1]) hd_none rfl rfl List.nodup_nil))
theorem q122_zero (w : World) (S : FP) : q122.M w S z122 [.int .i64 0, .string (⟨#[]⟩ : ByteArray)] := made_none (a := q122) ((pair_app (a := (Zd.int .i64)) (b := Zd.string) (w := w) (S := (fun (_ : Nat) (_ : Nat) => False)) (js1 := []) (js2 := []) (x := z122.f0) (y := z122.f1) (c0 := [.int .i64 0]) (c1 := [.string (⟨#[]⟩ : ByteArray)]) hd_none rfl rfl List.nodup_nil))
theorem q122_flat (w : World) (S : FP) (x : S122) : q122.M w S x [.int .i64 x.f0, .string x.f1] := made_none (a := q122) ((pair_app (a := (Zd.int .i64)) (b := Zd.string) (w := w) (S := (fun (_ : Nat) (_ : Nat) => False)) (js1 := []) (js2 := []) (x := x.f0) (y := x.f1) (c0 := [.int .i64 x.f0]) (c1 := [.string x.f1]) hd_none rfl rfl List.nodup_nil))
end Go.Proofs.YtfiifjlapaefaaaGreat.F
