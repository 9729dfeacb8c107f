import Derived.Test.YtoaoncnbimcdgaaProg
import Derived.Test.YtoaoncnbimcdgaaZView
namespace Go.Proofs.Ytoaoncnbimcdgaa.F
open Go.RowKit Go.Proofs.YtoaoncnbimcdgaaW.PrintWords Go.Proofs.YtoaoncnbimcdgaaW.PrintLast Go.Proofs.YtoaoncnbimcdgaaW.PrintMore Go.Proofs.Ytoaoncnbimcdgaa.Z
attribute [local go_sem] max2_int min2_int max_two min_two max_three min_three max_four min_four
set_option linter.unusedVariables false
set_option linter.unusedSimpArgs false
set_option maxRecDepth 100000
/-! #### struct type 154 -/
structure S154 where
  f0 : Int
  f1 : Int
  f2 : ByteArray
  f3 : Int
def z154 : S154 := ⟨(0 : Int), (0 : Int), (⟨#[]⟩ : ByteArray), (0 : Int)⟩
def k154 : Kd S154 := Kd.iso (Kd.pair (Kd.int .i64) (Kd.pair (Kd.int .i64) (Kd.pair Kd.string (Kd.int .i64)))) (fun x : S154 => (x.f0, x.f1, x.f2, x.f3))
theorem k154_open {w : World} {x : S154} {cs : List Value} (h : k154.K w x cs) : cs = [.int .i64 x.f0, .int .i64 x.f1, .string x.f2, .int .i64 x.f3] := by
  obtain ⟨_, _, rfl, rfl, ⟨_, _, rfl, rfl, ⟨_, _, rfl, rfl, rfl⟩⟩⟩ := h
  exact rfl
theorem k154_openM {w : World} {base : Nat} {ok : Nat → Prop} {x : S154} {cs : List Value} (h : k154.M w base ok x cs) : cs = [.int .i64 x.f0, .int .i64 x.f1, .string x.f2, .int .i64 x.f3] := by
  obtain ⟨_, _, rfl, rfl, ⟨_, _, rfl, rfl, ⟨_, _, rfl, rfl, rfl⟩⟩⟩ := h
  exact rfl
theorem k154_mk (w : World) (x : S154)  : k154.K w x [.int .i64 x.f0, .int .i64 x.f1, .string x.f2, .int .i64 x.f3] := ⟨[.int .i64 x.f0], [.int .i64 x.f1, .string x.f2, .int .i64 x.f3], rfl, rfl, ⟨[.int .i64 x.f1], [.string x.f2, .int .i64 x.f3], rfl, rfl, ⟨[.string x.f2], [.int .i64 x.f3], rfl, rfl, rfl⟩⟩⟩
theorem k154_mkM (w : World) (base : Nat) (ok : Nat → Prop) (x : S154)  : k154.M w base ok x [.int .i64 x.f0, .int .i64 x.f1, .string x.f2, .int .i64 x.f3] := ⟨[.int .i64 x.f0], [.int .i64 x.f1, .string x.f2, .int .i64 x.f3], rfl, rfl, ⟨[.int .i64 x.f1], [.string x.f2, .int .i64 x.f3], rfl, rfl, ⟨[.string x.f2], [.int .i64 x.f3], rfl, rfl, rfl⟩⟩⟩
def rd_T154 (xs : List S154) (i : Int) : S154 := xs.getD i.toNat z154
theorem at_T154 {w : World} {A : Option Addr} {n : Nat} {xs : List S154} (h : Kd.C k154 w A n xs) (i : Int) (h0 : 0 ≤ i) (h1 : i < n) : ∃ ad , A = some ad ∧ w.cell? (ad.add (i.toNat * 4)) = some (.int .i64 (rd_T154 xs i).f0) ∧ w.cell? ⟨(ad.add (i.toNat * 4)).block, (ad.add (i.toNat * 4)).off + 1, none⟩ = some (.int .i64 (rd_T154 xs i).f1) ∧ w.cell? ⟨(ad.add (i.toNat * 4)).block, (ad.add (i.toNat * 4)).off + 2, none⟩ = some (.string (rd_T154 xs i).f2) ∧ w.cell? ⟨(ad.add (i.toNat * 4)).block, (ad.add (i.toNat * 4)).off + 3, none⟩ = some (.int .i64 (rd_T154 xs i).f3) := by
  obtain ⟨ad, c, e, _, hK, hc0⟩ := Kd.C_get h z154 i h0 h1
  have hc : ∀ j u, c[j]? = some u → w.cell? (ad.add (i.toNat * 4 + j)) = some u := hc0
  obtain rfl := k154_open hK
  exact ⟨ad, e, hc 0 _ rfl, by rw [← add_field _ _ 1 (by omega)]; exact hc 1 _ rfl, by rw [← add_field _ _ 2 (by omega)]; exact hc 2 _ rfl, by rw [← add_field _ _ 3 (by omega)]; exact hc 3 _ rfl⟩

def rd_L3 (xs : List (List ByteArray)) (i : Int) : (List ByteArray) := xs.getD i.toNat ([] : List ByteArray)
theorem at_L3 {w : World} {A : Option Addr} {n : Nat} {xs : List (List ByteArray)} (h : Kd.C (Kd.slice 9 Kd.string) w A n xs) (i : Int) (h0 : 0 ≤ i) (h1 : i < n) : ∃ ad A0 c0, A = some ad ∧ w.cell? (ad.add i.toNat) = some (.slice A0 (rd_L3 xs i).length c0) ∧ (rd_L3 xs i).length ≤ c0 ∧ Kd.string.C w A0 (rd_L3 xs i).length (rd_L3 xs i) := by
  obtain ⟨ad, c, e, _, hK, hc0⟩ := Kd.C_get h ([] : List ByteArray) i h0 h1
  have hc : ∀ j u, c[j]? = some u → w.cell? (ad.add (i.toNat * 1 + j)) = some u := hc0
  obtain ⟨A0, c0, rfl, l0, g0⟩ := hK
  exact ⟨ad, A0, c0, e, by have hq := hc 0 _ rfl; rwa [Nat.mul_one, Nat.add_zero] at hq, l0, g0⟩

/-! #### struct type 241 -/
structure S241 where
  f0 : Int
  f1 : Int
  f2 : (List ByteArray)
  f3 : (List ByteArray)
def z241 : S241 := ⟨(0 : Int), (0 : Int), ([] : List ByteArray), ([] : List ByteArray)⟩
def k241 : Kd S241 := Kd.iso (Kd.pair (Kd.int .i64) (Kd.pair (Kd.int .i64) (Kd.pair (Kd.slice 9 Kd.string) (Kd.slice 9 Kd.string)))) (fun x : S241 => (x.f0, x.f1, x.f2, x.f3))
theorem k241_open {w : World} {x : S241} {cs : List Value} (h : k241.K w x cs) : ∃ A2 c2 A3 c3, cs = [.int .i64 x.f0, .int .i64 x.f1, .slice A2 x.f2.length c2, .slice A3 x.f3.length c3] ∧ x.f2.length ≤ c2 ∧ Kd.string.C w A2 x.f2.length x.f2 ∧ x.f3.length ≤ c3 ∧ Kd.string.C w A3 x.f3.length x.f3 := by
  obtain ⟨_, _, rfl, rfl, ⟨_, _, rfl, rfl, ⟨_, _, rfl, ⟨A2, c2, rfl, l2, g2⟩, ⟨A3, c3, rfl, l3, g3⟩⟩⟩⟩ := h
  exact ⟨A2, c2, A3, c3, rfl, l2, g2, l3, g3⟩
theorem k241_openM {w : World} {base : Nat} {ok : Nat → Prop} {x : S241} {cs : List Value} (h : k241.M w base ok x cs) : ∃ v2 v3, cs = [.int .i64 x.f0, .int .i64 x.f1, v2, v3] ∧ Kd.string.R 9 w base ok v2 x.f2 ∧ Kd.string.R 9 w base ok v3 x.f3 := by
  obtain ⟨_, _, rfl, rfl, ⟨_, _, rfl, rfl, ⟨_, _, rfl, ⟨v2, rfl, g2⟩, ⟨v3, rfl, g3⟩⟩⟩⟩ := h
  exact ⟨v2, v3, rfl, g2, g3⟩
theorem k241_mk (w : World) (x : S241) {A2 : Option Addr} {c2 : Nat} (l2 : x.f2.length ≤ c2) (g2 : Kd.string.C w A2 x.f2.length x.f2) {A3 : Option Addr} {c3 : Nat} (l3 : x.f3.length ≤ c3) (g3 : Kd.string.C w A3 x.f3.length x.f3) : k241.K w x [.int .i64 x.f0, .int .i64 x.f1, .slice A2 x.f2.length c2, .slice A3 x.f3.length c3] := ⟨[.int .i64 x.f0], [.int .i64 x.f1, .slice A2 x.f2.length c2, .slice A3 x.f3.length c3], rfl, rfl, ⟨[.int .i64 x.f1], [.slice A2 x.f2.length c2, .slice A3 x.f3.length c3], rfl, rfl, ⟨[.slice A2 x.f2.length c2], [.slice A3 x.f3.length c3], rfl, ⟨A2, c2, rfl, l2, g2⟩, ⟨A3, c3, rfl, l3, g3⟩⟩⟩⟩
theorem k241_mkM (w : World) (base : Nat) (ok : Nat → Prop) (x : S241) {v2 : Value} (g2 : Kd.string.R 9 w base ok v2 x.f2) {v3 : Value} (g3 : Kd.string.R 9 w base ok v3 x.f3) : k241.M w base ok x [.int .i64 x.f0, .int .i64 x.f1, v2, v3] := ⟨[.int .i64 x.f0], [.int .i64 x.f1, v2, v3], rfl, rfl, ⟨[.int .i64 x.f1], [v2, v3], rfl, rfl, ⟨[v2], [v3], rfl, ⟨v2, rfl, g2⟩, ⟨v3, rfl, g3⟩⟩⟩⟩
def rd_T241 (xs : List S241) (i : Int) : S241 := xs.getD i.toNat z241
theorem at_T241 {w : World} {A : Option Addr} {n : Nat} {xs : List S241} (h : Kd.C k241 w A n xs) (i : Int) (h0 : 0 ≤ i) (h1 : i < n) : ∃ ad A2 c2 A3 c3, A = some ad ∧ w.cell? (ad.add (i.toNat * 4)) = some (.int .i64 (rd_T241 xs i).f0) ∧ w.cell? ⟨(ad.add (i.toNat * 4)).block, (ad.add (i.toNat * 4)).off + 1, none⟩ = some (.int .i64 (rd_T241 xs i).f1) ∧ w.cell? ⟨(ad.add (i.toNat * 4)).block, (ad.add (i.toNat * 4)).off + 2, none⟩ = some (.slice A2 (rd_T241 xs i).f2.length c2) ∧ w.cell? ⟨(ad.add (i.toNat * 4)).block, (ad.add (i.toNat * 4)).off + 3, none⟩ = some (.slice A3 (rd_T241 xs i).f3.length c3) ∧ (rd_T241 xs i).f2.length ≤ c2 ∧ Kd.string.C w A2 (rd_T241 xs i).f2.length (rd_T241 xs i).f2 ∧ (rd_T241 xs i).f3.length ≤ c3 ∧ Kd.string.C w A3 (rd_T241 xs i).f3.length (rd_T241 xs i).f3 := by
  obtain ⟨ad, c, e, _, hK, hc0⟩ := Kd.C_get h z241 i h0 h1
  have hc : ∀ j u, c[j]? = some u → w.cell? (ad.add (i.toNat * 4 + j)) = some u := hc0
  obtain ⟨A2, c2, A3, c3, rfl, l2, g2, l3, g3⟩ := k241_open hK
  exact ⟨ad, A2, c2, A3, c3, e, hc 0 _ rfl, by rw [← add_field _ _ 1 (by omega)]; exact hc 1 _ rfl, by rw [← add_field _ _ 2 (by omega)]; exact hc 2 _ rfl, by rw [← add_field _ _ 3 (by omega)]; exact hc 3 _ rfl, l2, g2, l3, g3⟩

def rd_L5 (xs : List (List S241)) (i : Int) : (List S241) := xs.getD i.toNat ([] : List S241)
theorem at_L5 {w : World} {A : Option Addr} {n : Nat} {xs : List (List S241)} (h : Kd.C (Kd.slice 241 k241) w A n xs) (i : Int) (h0 : 0 ≤ i) (h1 : i < n) : ∃ ad A0 c0, A = some ad ∧ w.cell? (ad.add i.toNat) = some (.slice A0 (rd_L5 xs i).length c0) ∧ (rd_L5 xs i).length ≤ c0 ∧ k241.C w A0 (rd_L5 xs i).length (rd_L5 xs i) := by
  obtain ⟨ad, c, e, _, hK, hc0⟩ := Kd.C_get h ([] : List S241) i h0 h1
  have hc : ∀ j u, c[j]? = some u → w.cell? (ad.add (i.toNat * 1 + j)) = some u := hc0
  obtain ⟨A0, c0, rfl, l0, g0⟩ := hK
  exact ⟨ad, A0, c0, e, by have hq := hc 0 _ rfl; rwa [Nat.mul_one, Nat.add_zero] at hq, l0, g0⟩

/-! #### struct type 158 -/
structure S158 where
  f0 : ByteArray
  f1 : Int
  f2 : Int
  f3 : Int
  f4 : Int
  f5 : Int
  f6 : (List S241)
  f7 : ByteArray
def z158 : S158 := ⟨(⟨#[]⟩ : ByteArray), (0 : Int), (0 : Int), (0 : Int), (0 : Int), (0 : Int), ([] : List S241), (⟨#[]⟩ : ByteArray)⟩
def k158 : Kd S158 := Kd.iso (Kd.pair Kd.string (Kd.pair (Kd.int .i64) (Kd.pair (Kd.int .i64) (Kd.pair (Kd.int .i64) (Kd.pair (Kd.int .i64) (Kd.pair (Kd.int .i64) (Kd.pair (Kd.slice 241 k241) Kd.string))))))) (fun x : S158 => (x.f0, x.f1, x.f2, x.f3, x.f4, x.f5, x.f6, x.f7))
theorem k158_open {w : World} {x : S158} {cs : List Value} (h : k158.K w x cs) : ∃ A6 c6, cs = [.string x.f0, .int .i64 x.f1, .int .i64 x.f2, .int .i64 x.f3, .int .i64 x.f4, .int .i64 x.f5, .slice A6 x.f6.length c6, .string x.f7] ∧ x.f6.length ≤ c6 ∧ k241.C w A6 x.f6.length x.f6 := by
  obtain ⟨_, _, rfl, rfl, ⟨_, _, rfl, rfl, ⟨_, _, rfl, rfl, ⟨_, _, rfl, rfl, ⟨_, _, rfl, rfl, ⟨_, _, rfl, rfl, ⟨_, _, rfl, ⟨A6, c6, rfl, l6, g6⟩, rfl⟩⟩⟩⟩⟩⟩⟩ := h
  exact ⟨A6, c6, rfl, l6, g6⟩
theorem k158_openM {w : World} {base : Nat} {ok : Nat → Prop} {x : S158} {cs : List Value} (h : k158.M w base ok x cs) : ∃ v6, cs = [.string x.f0, .int .i64 x.f1, .int .i64 x.f2, .int .i64 x.f3, .int .i64 x.f4, .int .i64 x.f5, v6, .string x.f7] ∧ k241.R 241 w base ok v6 x.f6 := by
  obtain ⟨_, _, rfl, rfl, ⟨_, _, rfl, rfl, ⟨_, _, rfl, rfl, ⟨_, _, rfl, rfl, ⟨_, _, rfl, rfl, ⟨_, _, rfl, rfl, ⟨_, _, rfl, ⟨v6, rfl, g6⟩, rfl⟩⟩⟩⟩⟩⟩⟩ := h
  exact ⟨v6, rfl, g6⟩
theorem k158_mk (w : World) (x : S158) {A6 : Option Addr} {c6 : Nat} (l6 : x.f6.length ≤ c6) (g6 : k241.C w A6 x.f6.length x.f6) : k158.K w x [.string x.f0, .int .i64 x.f1, .int .i64 x.f2, .int .i64 x.f3, .int .i64 x.f4, .int .i64 x.f5, .slice A6 x.f6.length c6, .string x.f7] := ⟨[.string x.f0], [.int .i64 x.f1, .int .i64 x.f2, .int .i64 x.f3, .int .i64 x.f4, .int .i64 x.f5, .slice A6 x.f6.length c6, .string x.f7], rfl, rfl, ⟨[.int .i64 x.f1], [.int .i64 x.f2, .int .i64 x.f3, .int .i64 x.f4, .int .i64 x.f5, .slice A6 x.f6.length c6, .string x.f7], rfl, rfl, ⟨[.int .i64 x.f2], [.int .i64 x.f3, .int .i64 x.f4, .int .i64 x.f5, .slice A6 x.f6.length c6, .string x.f7], rfl, rfl, ⟨[.int .i64 x.f3], [.int .i64 x.f4, .int .i64 x.f5, .slice A6 x.f6.length c6, .string x.f7], rfl, rfl, ⟨[.int .i64 x.f4], [.int .i64 x.f5, .slice A6 x.f6.length c6, .string x.f7], rfl, rfl, ⟨[.int .i64 x.f5], [.slice A6 x.f6.length c6, .string x.f7], rfl, rfl, ⟨[.slice A6 x.f6.length c6], [.string x.f7], rfl, ⟨A6, c6, rfl, l6, g6⟩, rfl⟩⟩⟩⟩⟩⟩⟩
theorem k158_mkM (w : World) (base : Nat) (ok : Nat → Prop) (x : S158) {v6 : Value} (g6 : k241.R 241 w base ok v6 x.f6) : k158.M w base ok x [.string x.f0, .int .i64 x.f1, .int .i64 x.f2, .int .i64 x.f3, .int .i64 x.f4, .int .i64 x.f5, v6, .string x.f7] := ⟨[.string x.f0], [.int .i64 x.f1, .int .i64 x.f2, .int .i64 x.f3, .int .i64 x.f4, .int .i64 x.f5, v6, .string x.f7], rfl, rfl, ⟨[.int .i64 x.f1], [.int .i64 x.f2, .int .i64 x.f3, .int .i64 x.f4, .int .i64 x.f5, v6, .string x.f7], rfl, rfl, ⟨[.int .i64 x.f2], [.int .i64 x.f3, .int .i64 x.f4, .int .i64 x.f5, v6, .string x.f7], rfl, rfl, ⟨[.int .i64 x.f3], [.int .i64 x.f4, .int .i64 x.f5, v6, .string x.f7], rfl, rfl, ⟨[.int .i64 x.f4], [.int .i64 x.f5, v6, .string x.f7], rfl, rfl, ⟨[.int .i64 x.f5], [v6, .string x.f7], rfl, rfl, ⟨[v6], [.string x.f7], rfl, ⟨v6, rfl, g6⟩, rfl⟩⟩⟩⟩⟩⟩⟩
def rd_T158 (xs : List S158) (i : Int) : S158 := xs.getD i.toNat z158
theorem at_T158 {w : World} {A : Option Addr} {n : Nat} {xs : List S158} (h : Kd.C k158 w A n xs) (i : Int) (h0 : 0 ≤ i) (h1 : i < n) : ∃ ad A6 c6, A = some ad ∧ w.cell? (ad.add (i.toNat * 8)) = some (.string (rd_T158 xs i).f0) ∧ w.cell? ⟨(ad.add (i.toNat * 8)).block, (ad.add (i.toNat * 8)).off + 1, none⟩ = some (.int .i64 (rd_T158 xs i).f1) ∧ w.cell? ⟨(ad.add (i.toNat * 8)).block, (ad.add (i.toNat * 8)).off + 2, none⟩ = some (.int .i64 (rd_T158 xs i).f2) ∧ w.cell? ⟨(ad.add (i.toNat * 8)).block, (ad.add (i.toNat * 8)).off + 3, none⟩ = some (.int .i64 (rd_T158 xs i).f3) ∧ w.cell? ⟨(ad.add (i.toNat * 8)).block, (ad.add (i.toNat * 8)).off + 4, none⟩ = some (.int .i64 (rd_T158 xs i).f4) ∧ w.cell? ⟨(ad.add (i.toNat * 8)).block, (ad.add (i.toNat * 8)).off + 5, none⟩ = some (.int .i64 (rd_T158 xs i).f5) ∧ w.cell? ⟨(ad.add (i.toNat * 8)).block, (ad.add (i.toNat * 8)).off + 6, none⟩ = some (.slice A6 (rd_T158 xs i).f6.length c6) ∧ w.cell? ⟨(ad.add (i.toNat * 8)).block, (ad.add (i.toNat * 8)).off + 7, none⟩ = some (.string (rd_T158 xs i).f7) ∧ (rd_T158 xs i).f6.length ≤ c6 ∧ k241.C w A6 (rd_T158 xs i).f6.length (rd_T158 xs i).f6 := by
  obtain ⟨ad, c, e, _, hK, hc0⟩ := Kd.C_get h z158 i h0 h1
  have hc : ∀ j u, c[j]? = some u → w.cell? (ad.add (i.toNat * 8 + j)) = some u := hc0
  obtain ⟨A6, c6, rfl, l6, g6⟩ := k158_open hK
  exact ⟨ad, A6, c6, e, hc 0 _ rfl, by rw [← add_field _ _ 1 (by omega)]; exact hc 1 _ rfl, by rw [← add_field _ _ 2 (by omega)]; exact hc 2 _ rfl, by rw [← add_field _ _ 3 (by omega)]; exact hc 3 _ rfl, by rw [← add_field _ _ 4 (by omega)]; exact hc 4 _ rfl, by rw [← add_field _ _ 5 (by omega)]; exact hc 5 _ rfl, by rw [← add_field _ _ 6 (by omega)]; exact hc 6 _ rfl, by rw [← add_field _ _ 7 (by omega)]; exact hc 7 _ rfl, l6, g6⟩

/-! #### struct type 160 -/
structure S160 where
  f0 : Int
  f1 : S158
def z160 : S160 := ⟨(0 : Int), z158⟩
def k160 : Kd S160 := Kd.iso (Kd.pair (Kd.int .i64) k158) (fun x : S160 => (x.f0, x.f1))
theorem k160_open {w : World} {x : S160} {cs : List Value} (h : k160.K w x cs) : ∃ A7 c7, cs = [.int .i64 x.f0, .string x.f1.f0, .int .i64 x.f1.f1, .int .i64 x.f1.f2, .int .i64 x.f1.f3, .int .i64 x.f1.f4, .int .i64 x.f1.f5, .slice A7 x.f1.f6.length c7, .string x.f1.f7] ∧ x.f1.f6.length ≤ c7 ∧ k241.C w A7 x.f1.f6.length x.f1.f6 := by
  obtain ⟨_, _, rfl, rfl, s1⟩ := h
  obtain ⟨A7, c7, rfl, l7, g7⟩ := k158_open s1
  exact ⟨A7, c7, rfl, l7, g7⟩
theorem k160_openM {w : World} {base : Nat} {ok : Nat → Prop} {x : S160} {cs : List Value} (h : k160.M w base ok x cs) : ∃ v7, cs = [.int .i64 x.f0, .string x.f1.f0, .int .i64 x.f1.f1, .int .i64 x.f1.f2, .int .i64 x.f1.f3, .int .i64 x.f1.f4, .int .i64 x.f1.f5, v7, .string x.f1.f7] ∧ k241.R 241 w base ok v7 x.f1.f6 := by
  obtain ⟨_, _, rfl, rfl, s1⟩ := h
  obtain ⟨v7, rfl, g7⟩ := k158_openM s1
  exact ⟨v7, rfl, g7⟩
theorem k160_mk (w : World) (x : S160) {A7 : Option Addr} {c7 : Nat} (l7 : x.f1.f6.length ≤ c7) (g7 : k241.C w A7 x.f1.f6.length x.f1.f6) : k160.K w x [.int .i64 x.f0, .string x.f1.f0, .int .i64 x.f1.f1, .int .i64 x.f1.f2, .int .i64 x.f1.f3, .int .i64 x.f1.f4, .int .i64 x.f1.f5, .slice A7 x.f1.f6.length c7, .string x.f1.f7] := ⟨[.int .i64 x.f0], [.string x.f1.f0, .int .i64 x.f1.f1, .int .i64 x.f1.f2, .int .i64 x.f1.f3, .int .i64 x.f1.f4, .int .i64 x.f1.f5, .slice A7 x.f1.f6.length c7, .string x.f1.f7], rfl, rfl, (k158_mk w x.f1 l7 g7)⟩
theorem k160_mkM (w : World) (base : Nat) (ok : Nat → Prop) (x : S160) {v7 : Value} (g7 : k241.R 241 w base ok v7 x.f1.f6) : k160.M w base ok x [.int .i64 x.f0, .string x.f1.f0, .int .i64 x.f1.f1, .int .i64 x.f1.f2, .int .i64 x.f1.f3, .int .i64 x.f1.f4, .int .i64 x.f1.f5, v7, .string x.f1.f7] := ⟨[.int .i64 x.f0], [.string x.f1.f0, .int .i64 x.f1.f1, .int .i64 x.f1.f2, .int .i64 x.f1.f3, .int .i64 x.f1.f4, .int .i64 x.f1.f5, v7, .string x.f1.f7], rfl, rfl, (k158_mkM w base ok x.f1 g7)⟩
def rd_T160 (xs : List S160) (i : Int) : S160 := xs.getD i.toNat z160
theorem at_T160 {w : World} {A : Option Addr} {n : Nat} {xs : List S160} (h : Kd.C k160 w A n xs) (i : Int) (h0 : 0 ≤ i) (h1 : i < n) : ∃ ad A7 c7, A = some ad ∧ w.cell? (ad.add (i.toNat * 9)) = some (.int .i64 (rd_T160 xs i).f0) ∧ w.cell? ⟨(ad.add (i.toNat * 9)).block, (ad.add (i.toNat * 9)).off + 1, none⟩ = some (.string (rd_T160 xs i).f1.f0) ∧ w.cell? ⟨(ad.add (i.toNat * 9)).block, (ad.add (i.toNat * 9)).off + 2, none⟩ = some (.int .i64 (rd_T160 xs i).f1.f1) ∧ w.cell? ⟨(ad.add (i.toNat * 9)).block, (ad.add (i.toNat * 9)).off + 3, none⟩ = some (.int .i64 (rd_T160 xs i).f1.f2) ∧ w.cell? ⟨(ad.add (i.toNat * 9)).block, (ad.add (i.toNat * 9)).off + 4, none⟩ = some (.int .i64 (rd_T160 xs i).f1.f3) ∧ w.cell? ⟨(ad.add (i.toNat * 9)).block, (ad.add (i.toNat * 9)).off + 5, none⟩ = some (.int .i64 (rd_T160 xs i).f1.f4) ∧ w.cell? ⟨(ad.add (i.toNat * 9)).block, (ad.add (i.toNat * 9)).off + 6, none⟩ = some (.int .i64 (rd_T160 xs i).f1.f5) ∧ w.cell? ⟨(ad.add (i.toNat * 9)).block, (ad.add (i.toNat * 9)).off + 7, none⟩ = some (.slice A7 (rd_T160 xs i).f1.f6.length c7) ∧ w.cell? ⟨(ad.add (i.toNat * 9)).block, (ad.add (i.toNat * 9)).off + 8, none⟩ = some (.string (rd_T160 xs i).f1.f7) ∧ (rd_T160 xs i).f1.f6.length ≤ c7 ∧ k241.C w A7 (rd_T160 xs i).f1.f6.length (rd_T160 xs i).f1.f6 := by
  obtain ⟨ad, c, e, _, hK, hc0⟩ := Kd.C_get h z160 i h0 h1
  have hc : ∀ j u, c[j]? = some u → w.cell? (ad.add (i.toNat * 9 + j)) = some u := hc0
  obtain ⟨A7, c7, rfl, l7, g7⟩ := k160_open hK
  exact ⟨ad, A7, c7, e, hc 0 _ rfl, by rw [← add_field _ _ 1 (by omega)]; exact hc 1 _ rfl, by rw [← add_field _ _ 2 (by omega)]; exact hc 2 _ rfl, by rw [← add_field _ _ 3 (by omega)]; exact hc 3 _ rfl, by rw [← add_field _ _ 4 (by omega)]; exact hc 4 _ rfl, by rw [← add_field _ _ 5 (by omega)]; exact hc 5 _ rfl, by rw [← add_field _ _ 6 (by omega)]; exact hc 6 _ rfl, by rw [← add_field _ _ 7 (by omega)]; exact hc 7 _ rfl, by rw [← add_field _ _ 8 (by omega)]; exact hc 8 _ rfl, l7, g7⟩

def rd_L8 (xs : List (List S154)) (i : Int) : (List S154) := xs.getD i.toNat ([] : List S154)
theorem at_L8 {w : World} {A : Option Addr} {n : Nat} {xs : List (List S154)} (h : Kd.C (Kd.slice 154 k154) w A n xs) (i : Int) (h0 : 0 ≤ i) (h1 : i < n) : ∃ ad A0 c0, A = some ad ∧ w.cell? (ad.add i.toNat) = some (.slice A0 (rd_L8 xs i).length c0) ∧ (rd_L8 xs i).length ≤ c0 ∧ k154.C w A0 (rd_L8 xs i).length (rd_L8 xs i) := by
  obtain ⟨ad, c, e, _, hK, hc0⟩ := Kd.C_get h ([] : List S154) i h0 h1
  have hc : ∀ j u, c[j]? = some u → w.cell? (ad.add (i.toNat * 1 + j)) = some u := hc0
  obtain ⟨A0, c0, rfl, l0, g0⟩ := hK
  exact ⟨ad, A0, c0, e, by have hq := hc 0 _ rfl; rwa [Nat.mul_one, Nat.add_zero] at hq, l0, g0⟩

def rd_L9 (xs : List (List S160)) (i : Int) : (List S160) := xs.getD i.toNat ([] : List S160)
theorem at_L9 {w : World} {A : Option Addr} {n : Nat} {xs : List (List S160)} (h : Kd.C (Kd.slice 160 k160) w A n xs) (i : Int) (h0 : 0 ≤ i) (h1 : i < n) : ∃ ad A0 c0, A = some ad ∧ w.cell? (ad.add i.toNat) = some (.slice A0 (rd_L9 xs i).length c0) ∧ (rd_L9 xs i).length ≤ c0 ∧ k160.C w A0 (rd_L9 xs i).length (rd_L9 xs i) := by
  obtain ⟨ad, c, e, _, hK, hc0⟩ := Kd.C_get h ([] : List S160) i h0 h1
  have hc : ∀ j u, c[j]? = some u → w.cell? (ad.add (i.toNat * 1 + j)) = some u := hc0
  obtain ⟨A0, c0, rfl, l0, g0⟩ := hK
  exact ⟨ad, A0, c0, e, by have hq := hc 0 _ rfl; rwa [Nat.mul_one, Nat.add_zero] at hq, l0, g0⟩

def rd_L10 (xs : List (List Int)) (i : Int) : (List Int) := xs.getD i.toNat ([] : List Int)
theorem at_L10 {w : World} {A : Option Addr} {n : Nat} {xs : List (List Int)} (h : Kd.C (Kd.slice 3 (Kd.int .i64)) w A n xs) (i : Int) (h0 : 0 ≤ i) (h1 : i < n) : ∃ ad A0 c0, A = some ad ∧ w.cell? (ad.add i.toNat) = some (.slice A0 (rd_L10 xs i).length c0) ∧ (rd_L10 xs i).length ≤ c0 ∧ (Kd.int .i64).C w A0 (rd_L10 xs i).length (rd_L10 xs i) := by
  obtain ⟨ad, c, e, _, hK, hc0⟩ := Kd.C_get h ([] : List Int) i h0 h1
  have hc : ∀ j u, c[j]? = some u → w.cell? (ad.add (i.toNat * 1 + j)) = some u := hc0
  obtain ⟨A0, c0, rfl, l0, g0⟩ := hK
  exact ⟨ad, A0, c0, e, by have hq := hc 0 _ rfl; rwa [Nat.mul_one, Nat.add_zero] at hq, l0, g0⟩

/-! #### struct type 26 -/
structure S26 where
  f0 : ByteArray
  f1 : Int
  f2 : (List S154)
  f3 : (List S160)
  f4 : (List Int)
def z26 : S26 := ⟨(⟨#[]⟩ : ByteArray), (0 : Int), ([] : List S154), ([] : List S160), ([] : List Int)⟩
def k26 : Kd S26 := Kd.iso (Kd.pair Kd.string (Kd.pair (Kd.int .i64) (Kd.pair (Kd.slice 154 k154) (Kd.pair (Kd.slice 160 k160) (Kd.slice 3 (Kd.int .i64)))))) (fun x : S26 => (x.f0, x.f1, x.f2, x.f3, x.f4))
theorem k26_open {w : World} {x : S26} {cs : List Value} (h : k26.K w x cs) : ∃ A2 c2 A3 c3 A4 c4, cs = [.string x.f0, .int .i64 x.f1, .slice A2 x.f2.length c2, .slice A3 x.f3.length c3, .slice A4 x.f4.length c4] ∧ x.f2.length ≤ c2 ∧ k154.C w A2 x.f2.length x.f2 ∧ x.f3.length ≤ c3 ∧ k160.C w A3 x.f3.length x.f3 ∧ x.f4.length ≤ c4 ∧ (Kd.int .i64).C w A4 x.f4.length x.f4 := by
  obtain ⟨_, _, rfl, rfl, ⟨_, _, rfl, rfl, ⟨_, _, rfl, ⟨A2, c2, rfl, l2, g2⟩, ⟨_, _, rfl, ⟨A3, c3, rfl, l3, g3⟩, ⟨A4, c4, rfl, l4, g4⟩⟩⟩⟩⟩ := h
  exact ⟨A2, c2, A3, c3, A4, c4, rfl, l2, g2, l3, g3, l4, g4⟩
theorem k26_openM {w : World} {base : Nat} {ok : Nat → Prop} {x : S26} {cs : List Value} (h : k26.M w base ok x cs) : ∃ v2 v3 v4, cs = [.string x.f0, .int .i64 x.f1, v2, v3, v4] ∧ k154.R 154 w base ok v2 x.f2 ∧ k160.R 160 w base ok v3 x.f3 ∧ (Kd.int .i64).R 3 w base ok v4 x.f4 := by
  obtain ⟨_, _, rfl, rfl, ⟨_, _, rfl, rfl, ⟨_, _, rfl, ⟨v2, rfl, g2⟩, ⟨_, _, rfl, ⟨v3, rfl, g3⟩, ⟨v4, rfl, g4⟩⟩⟩⟩⟩ := h
  exact ⟨v2, v3, v4, rfl, g2, g3, g4⟩
theorem k26_mk (w : World) (x : S26) {A2 : Option Addr} {c2 : Nat} (l2 : x.f2.length ≤ c2) (g2 : k154.C w A2 x.f2.length x.f2) {A3 : Option Addr} {c3 : Nat} (l3 : x.f3.length ≤ c3) (g3 : k160.C w A3 x.f3.length x.f3) {A4 : Option Addr} {c4 : Nat} (l4 : x.f4.length ≤ c4) (g4 : (Kd.int .i64).C w A4 x.f4.length x.f4) : k26.K w x [.string x.f0, .int .i64 x.f1, .slice A2 x.f2.length c2, .slice A3 x.f3.length c3, .slice A4 x.f4.length c4] := ⟨[.string x.f0], [.int .i64 x.f1, .slice A2 x.f2.length c2, .slice A3 x.f3.length c3, .slice A4 x.f4.length c4], rfl, rfl, ⟨[.int .i64 x.f1], [.slice A2 x.f2.length c2, .slice A3 x.f3.length c3, .slice A4 x.f4.length c4], rfl, rfl, ⟨[.slice A2 x.f2.length c2], [.slice A3 x.f3.length c3, .slice A4 x.f4.length c4], rfl, ⟨A2, c2, rfl, l2, g2⟩, ⟨[.slice A3 x.f3.length c3], [.slice A4 x.f4.length c4], rfl, ⟨A3, c3, rfl, l3, g3⟩, ⟨A4, c4, rfl, l4, g4⟩⟩⟩⟩⟩
theorem k26_mkM (w : World) (base : Nat) (ok : Nat → Prop) (x : S26) {v2 : Value} (g2 : k154.R 154 w base ok v2 x.f2) {v3 : Value} (g3 : k160.R 160 w base ok v3 x.f3) {v4 : Value} (g4 : (Kd.int .i64).R 3 w base ok v4 x.f4) : k26.M w base ok x [.string x.f0, .int .i64 x.f1, v2, v3, v4] := ⟨[.string x.f0], [.int .i64 x.f1, v2, v3, v4], rfl, rfl, ⟨[.int .i64 x.f1], [v2, v3, v4], rfl, rfl, ⟨[v2], [v3, v4], rfl, ⟨v2, rfl, g2⟩, ⟨[v3], [v4], rfl, ⟨v3, rfl, g3⟩, ⟨v4, rfl, g4⟩⟩⟩⟩⟩
def rd_T26 (xs : List S26) (i : Int) : S26 := xs.getD i.toNat z26
theorem at_T26 {w : World} {A : Option Addr} {n : Nat} {xs : List S26} (h : Kd.C k26 w A n xs) (i : Int) (h0 : 0 ≤ i) (h1 : i < n) : ∃ ad A2 c2 A3 c3 A4 c4, A = some ad ∧ w.cell? (ad.add (i.toNat * 5)) = some (.string (rd_T26 xs i).f0) ∧ w.cell? ⟨(ad.add (i.toNat * 5)).block, (ad.add (i.toNat * 5)).off + 1, none⟩ = some (.int .i64 (rd_T26 xs i).f1) ∧ w.cell? ⟨(ad.add (i.toNat * 5)).block, (ad.add (i.toNat * 5)).off + 2, none⟩ = some (.slice A2 (rd_T26 xs i).f2.length c2) ∧ w.cell? ⟨(ad.add (i.toNat * 5)).block, (ad.add (i.toNat * 5)).off + 3, none⟩ = some (.slice A3 (rd_T26 xs i).f3.length c3) ∧ w.cell? ⟨(ad.add (i.toNat * 5)).block, (ad.add (i.toNat * 5)).off + 4, none⟩ = some (.slice A4 (rd_T26 xs i).f4.length c4) ∧ (rd_T26 xs i).f2.length ≤ c2 ∧ k154.C w A2 (rd_T26 xs i).f2.length (rd_T26 xs i).f2 ∧ (rd_T26 xs i).f3.length ≤ c3 ∧ k160.C w A3 (rd_T26 xs i).f3.length (rd_T26 xs i).f3 ∧ (rd_T26 xs i).f4.length ≤ c4 ∧ (Kd.int .i64).C w A4 (rd_T26 xs i).f4.length (rd_T26 xs i).f4 := by
  obtain ⟨ad, c, e, _, hK, hc0⟩ := Kd.C_get h z26 i h0 h1
  have hc : ∀ j u, c[j]? = some u → w.cell? (ad.add (i.toNat * 5 + j)) = some u := hc0
  obtain ⟨A2, c2, A3, c3, A4, c4, rfl, l2, g2, l3, g3, l4, g4⟩ := k26_open hK
  exact ⟨ad, A2, c2, A3, c3, A4, c4, e, hc 0 _ rfl, by rw [← add_field _ _ 1 (by omega)]; exact hc 1 _ rfl, by rw [← add_field _ _ 2 (by omega)]; exact hc 2 _ rfl, by rw [← add_field _ _ 3 (by omega)]; exact hc 3 _ rfl, by rw [← add_field _ _ 4 (by omega)]; exact hc 4 _ rfl, l2, g2, l3, g3, l4, g4⟩

/-! #### struct type 109 -/
structure S109 where
  f0 : Int
  f1 : Int
  f2 : (List ByteArray)
  f3 : (List ByteArray)
def z109 : S109 := ⟨(0 : Int), (0 : Int), ([] : List ByteArray), ([] : List ByteArray)⟩
def k109 : Kd S109 := Kd.iso (Kd.pair (Kd.int .i64) (Kd.pair (Kd.int .i64) (Kd.pair (Kd.slice 9 Kd.string) (Kd.slice 9 Kd.string)))) (fun x : S109 => (x.f0, x.f1, x.f2, x.f3))
theorem k109_open {w : World} {x : S109} {cs : List Value} (h : k109.K w x cs) : ∃ A2 c2 A3 c3, cs = [.int .i64 x.f0, .int .i64 x.f1, .slice A2 x.f2.length c2, .slice A3 x.f3.length c3] ∧ x.f2.length ≤ c2 ∧ Kd.string.C w A2 x.f2.length x.f2 ∧ x.f3.length ≤ c3 ∧ Kd.string.C w A3 x.f3.length x.f3 := by
  obtain ⟨_, _, rfl, rfl, ⟨_, _, rfl, rfl, ⟨_, _, rfl, ⟨A2, c2, rfl, l2, g2⟩, ⟨A3, c3, rfl, l3, g3⟩⟩⟩⟩ := h
  exact ⟨A2, c2, A3, c3, rfl, l2, g2, l3, g3⟩
theorem k109_openM {w : World} {base : Nat} {ok : Nat → Prop} {x : S109} {cs : List Value} (h : k109.M w base ok x cs) : ∃ v2 v3, cs = [.int .i64 x.f0, .int .i64 x.f1, v2, v3] ∧ Kd.string.R 9 w base ok v2 x.f2 ∧ Kd.string.R 9 w base ok v3 x.f3 := by
  obtain ⟨_, _, rfl, rfl, ⟨_, _, rfl, rfl, ⟨_, _, rfl, ⟨v2, rfl, g2⟩, ⟨v3, rfl, g3⟩⟩⟩⟩ := h
  exact ⟨v2, v3, rfl, g2, g3⟩
theorem k109_mk (w : World) (x : S109) {A2 : Option Addr} {c2 : Nat} (l2 : x.f2.length ≤ c2) (g2 : Kd.string.C w A2 x.f2.length x.f2) {A3 : Option Addr} {c3 : Nat} (l3 : x.f3.length ≤ c3) (g3 : Kd.string.C w A3 x.f3.length x.f3) : k109.K w x [.int .i64 x.f0, .int .i64 x.f1, .slice A2 x.f2.length c2, .slice A3 x.f3.length c3] := ⟨[.int .i64 x.f0], [.int .i64 x.f1, .slice A2 x.f2.length c2, .slice A3 x.f3.length c3], rfl, rfl, ⟨[.int .i64 x.f1], [.slice A2 x.f2.length c2, .slice A3 x.f3.length c3], rfl, rfl, ⟨[.slice A2 x.f2.length c2], [.slice A3 x.f3.length c3], rfl, ⟨A2, c2, rfl, l2, g2⟩, ⟨A3, c3, rfl, l3, g3⟩⟩⟩⟩
theorem k109_mkM (w : World) (base : Nat) (ok : Nat → Prop) (x : S109) {v2 : Value} (g2 : Kd.string.R 9 w base ok v2 x.f2) {v3 : Value} (g3 : Kd.string.R 9 w base ok v3 x.f3) : k109.M w base ok x [.int .i64 x.f0, .int .i64 x.f1, v2, v3] := ⟨[.int .i64 x.f0], [.int .i64 x.f1, v2, v3], rfl, rfl, ⟨[.int .i64 x.f1], [v2, v3], rfl, rfl, ⟨[v2], [v3], rfl, ⟨v2, rfl, g2⟩, ⟨v3, rfl, g3⟩⟩⟩⟩
def rd_T109 (xs : List S109) (i : Int) : S109 := xs.getD i.toNat z109
theorem at_T109 {w : World} {A : Option Addr} {n : Nat} {xs : List S109} (h : Kd.C k109 w A n xs) (i : Int) (h0 : 0 ≤ i) (h1 : i < n) : ∃ ad A2 c2 A3 c3, A = some ad ∧ w.cell? (ad.add (i.toNat * 4)) = some (.int .i64 (rd_T109 xs i).f0) ∧ w.cell? ⟨(ad.add (i.toNat * 4)).block, (ad.add (i.toNat * 4)).off + 1, none⟩ = some (.int .i64 (rd_T109 xs i).f1) ∧ w.cell? ⟨(ad.add (i.toNat * 4)).block, (ad.add (i.toNat * 4)).off + 2, none⟩ = some (.slice A2 (rd_T109 xs i).f2.length c2) ∧ w.cell? ⟨(ad.add (i.toNat * 4)).block, (ad.add (i.toNat * 4)).off + 3, none⟩ = some (.slice A3 (rd_T109 xs i).f3.length c3) ∧ (rd_T109 xs i).f2.length ≤ c2 ∧ Kd.string.C w A2 (rd_T109 xs i).f2.length (rd_T109 xs i).f2 ∧ (rd_T109 xs i).f3.length ≤ c3 ∧ Kd.string.C w A3 (rd_T109 xs i).f3.length (rd_T109 xs i).f3 := by
  obtain ⟨ad, c, e, _, hK, hc0⟩ := Kd.C_get h z109 i h0 h1
  have hc : ∀ j u, c[j]? = some u → w.cell? (ad.add (i.toNat * 4 + j)) = some u := hc0
  obtain ⟨A2, c2, A3, c3, rfl, l2, g2, l3, g3⟩ := k109_open hK
  exact ⟨ad, A2, c2, A3, c3, e, hc 0 _ rfl, by rw [← add_field _ _ 1 (by omega)]; exact hc 1 _ rfl, by rw [← add_field _ _ 2 (by omega)]; exact hc 2 _ rfl, by rw [← add_field _ _ 3 (by omega)]; exact hc 3 _ rfl, l2, g2, l3, g3⟩

def rd_L13 (xs : List (List S109)) (i : Int) : (List S109) := xs.getD i.toNat ([] : List S109)
theorem at_L13 {w : World} {A : Option Addr} {n : Nat} {xs : List (List S109)} (h : Kd.C (Kd.slice 109 k109) w A n xs) (i : Int) (h0 : 0 ≤ i) (h1 : i < n) : ∃ ad A0 c0, A = some ad ∧ w.cell? (ad.add i.toNat) = some (.slice A0 (rd_L13 xs i).length c0) ∧ (rd_L13 xs i).length ≤ c0 ∧ k109.C w A0 (rd_L13 xs i).length (rd_L13 xs i) := by
  obtain ⟨ad, c, e, _, hK, hc0⟩ := Kd.C_get h ([] : List S109) i h0 h1
  have hc : ∀ j u, c[j]? = some u → w.cell? (ad.add (i.toNat * 1 + j)) = some u := hc0
  obtain ⟨A0, c0, rfl, l0, g0⟩ := hK
  exact ⟨ad, A0, c0, e, by have hq := hc 0 _ rfl; rwa [Nat.mul_one, Nat.add_zero] at hq, l0, g0⟩

/-! #### struct type 40 -/
structure S40 where
  f0 : ByteArray
  f1 : Int
  f2 : Int
  f3 : Int
  f4 : Int
  f5 : Int
  f6 : (List S109)
  f7 : ByteArray
def z40 : S40 := ⟨(⟨#[]⟩ : ByteArray), (0 : Int), (0 : Int), (0 : Int), (0 : Int), (0 : Int), ([] : List S109), (⟨#[]⟩ : ByteArray)⟩
def k40 : Kd S40 := Kd.iso (Kd.pair Kd.string (Kd.pair (Kd.int .i64) (Kd.pair (Kd.int .i64) (Kd.pair (Kd.int .i64) (Kd.pair (Kd.int .i64) (Kd.pair (Kd.int .i64) (Kd.pair (Kd.slice 109 k109) Kd.string))))))) (fun x : S40 => (x.f0, x.f1, x.f2, x.f3, x.f4, x.f5, x.f6, x.f7))
theorem k40_open {w : World} {x : S40} {cs : List Value} (h : k40.K w x cs) : ∃ A6 c6, cs = [.string x.f0, .int .i64 x.f1, .int .i64 x.f2, .int .i64 x.f3, .int .i64 x.f4, .int .i64 x.f5, .slice A6 x.f6.length c6, .string x.f7] ∧ x.f6.length ≤ c6 ∧ k109.C w A6 x.f6.length x.f6 := by
  obtain ⟨_, _, rfl, rfl, ⟨_, _, rfl, rfl, ⟨_, _, rfl, rfl, ⟨_, _, rfl, rfl, ⟨_, _, rfl, rfl, ⟨_, _, rfl, rfl, ⟨_, _, rfl, ⟨A6, c6, rfl, l6, g6⟩, rfl⟩⟩⟩⟩⟩⟩⟩ := h
  exact ⟨A6, c6, rfl, l6, g6⟩
theorem k40_openM {w : World} {base : Nat} {ok : Nat → Prop} {x : S40} {cs : List Value} (h : k40.M w base ok x cs) : ∃ v6, cs = [.string x.f0, .int .i64 x.f1, .int .i64 x.f2, .int .i64 x.f3, .int .i64 x.f4, .int .i64 x.f5, v6, .string x.f7] ∧ k109.R 109 w base ok v6 x.f6 := by
  obtain ⟨_, _, rfl, rfl, ⟨_, _, rfl, rfl, ⟨_, _, rfl, rfl, ⟨_, _, rfl, rfl, ⟨_, _, rfl, rfl, ⟨_, _, rfl, rfl, ⟨_, _, rfl, ⟨v6, rfl, g6⟩, rfl⟩⟩⟩⟩⟩⟩⟩ := h
  exact ⟨v6, rfl, g6⟩
theorem k40_mk (w : World) (x : S40) {A6 : Option Addr} {c6 : Nat} (l6 : x.f6.length ≤ c6) (g6 : k109.C w A6 x.f6.length x.f6) : k40.K w x [.string x.f0, .int .i64 x.f1, .int .i64 x.f2, .int .i64 x.f3, .int .i64 x.f4, .int .i64 x.f5, .slice A6 x.f6.length c6, .string x.f7] := ⟨[.string x.f0], [.int .i64 x.f1, .int .i64 x.f2, .int .i64 x.f3, .int .i64 x.f4, .int .i64 x.f5, .slice A6 x.f6.length c6, .string x.f7], rfl, rfl, ⟨[.int .i64 x.f1], [.int .i64 x.f2, .int .i64 x.f3, .int .i64 x.f4, .int .i64 x.f5, .slice A6 x.f6.length c6, .string x.f7], rfl, rfl, ⟨[.int .i64 x.f2], [.int .i64 x.f3, .int .i64 x.f4, .int .i64 x.f5, .slice A6 x.f6.length c6, .string x.f7], rfl, rfl, ⟨[.int .i64 x.f3], [.int .i64 x.f4, .int .i64 x.f5, .slice A6 x.f6.length c6, .string x.f7], rfl, rfl, ⟨[.int .i64 x.f4], [.int .i64 x.f5, .slice A6 x.f6.length c6, .string x.f7], rfl, rfl, ⟨[.int .i64 x.f5], [.slice A6 x.f6.length c6, .string x.f7], rfl, rfl, ⟨[.slice A6 x.f6.length c6], [.string x.f7], rfl, ⟨A6, c6, rfl, l6, g6⟩, rfl⟩⟩⟩⟩⟩⟩⟩
theorem k40_mkM (w : World) (base : Nat) (ok : Nat → Prop) (x : S40) {v6 : Value} (g6 : k109.R 109 w base ok v6 x.f6) : k40.M w base ok x [.string x.f0, .int .i64 x.f1, .int .i64 x.f2, .int .i64 x.f3, .int .i64 x.f4, .int .i64 x.f5, v6, .string x.f7] := ⟨[.string x.f0], [.int .i64 x.f1, .int .i64 x.f2, .int .i64 x.f3, .int .i64 x.f4, .int .i64 x.f5, v6, .string x.f7], rfl, rfl, ⟨[.int .i64 x.f1], [.int .i64 x.f2, .int .i64 x.f3, .int .i64 x.f4, .int .i64 x.f5, v6, .string x.f7], rfl, rfl, ⟨[.int .i64 x.f2], [.int .i64 x.f3, .int .i64 x.f4, .int .i64 x.f5, v6, .string x.f7], rfl, rfl, ⟨[.int .i64 x.f3], [.int .i64 x.f4, .int .i64 x.f5, v6, .string x.f7], rfl, rfl, ⟨[.int .i64 x.f4], [.int .i64 x.f5, v6, .string x.f7], rfl, rfl, ⟨[.int .i64 x.f5], [v6, .string x.f7], rfl, rfl, ⟨[v6], [.string x.f7], rfl, ⟨v6, rfl, g6⟩, rfl⟩⟩⟩⟩⟩⟩⟩
def rd_T40 (xs : List S40) (i : Int) : S40 := xs.getD i.toNat z40
theorem at_T40 {w : World} {A : Option Addr} {n : Nat} {xs : List S40} (h : Kd.C k40 w A n xs) (i : Int) (h0 : 0 ≤ i) (h1 : i < n) : ∃ ad A6 c6, A = some ad ∧ w.cell? (ad.add (i.toNat * 8)) = some (.string (rd_T40 xs i).f0) ∧ w.cell? ⟨(ad.add (i.toNat * 8)).block, (ad.add (i.toNat * 8)).off + 1, none⟩ = some (.int .i64 (rd_T40 xs i).f1) ∧ w.cell? ⟨(ad.add (i.toNat * 8)).block, (ad.add (i.toNat * 8)).off + 2, none⟩ = some (.int .i64 (rd_T40 xs i).f2) ∧ w.cell? ⟨(ad.add (i.toNat * 8)).block, (ad.add (i.toNat * 8)).off + 3, none⟩ = some (.int .i64 (rd_T40 xs i).f3) ∧ w.cell? ⟨(ad.add (i.toNat * 8)).block, (ad.add (i.toNat * 8)).off + 4, none⟩ = some (.int .i64 (rd_T40 xs i).f4) ∧ w.cell? ⟨(ad.add (i.toNat * 8)).block, (ad.add (i.toNat * 8)).off + 5, none⟩ = some (.int .i64 (rd_T40 xs i).f5) ∧ w.cell? ⟨(ad.add (i.toNat * 8)).block, (ad.add (i.toNat * 8)).off + 6, none⟩ = some (.slice A6 (rd_T40 xs i).f6.length c6) ∧ w.cell? ⟨(ad.add (i.toNat * 8)).block, (ad.add (i.toNat * 8)).off + 7, none⟩ = some (.string (rd_T40 xs i).f7) ∧ (rd_T40 xs i).f6.length ≤ c6 ∧ k109.C w A6 (rd_T40 xs i).f6.length (rd_T40 xs i).f6 := by
  obtain ⟨ad, c, e, _, hK, hc0⟩ := Kd.C_get h z40 i h0 h1
  have hc : ∀ j u, c[j]? = some u → w.cell? (ad.add (i.toNat * 8 + j)) = some u := hc0
  obtain ⟨A6, c6, rfl, l6, g6⟩ := k40_open hK
  exact ⟨ad, A6, c6, e, hc 0 _ rfl, by rw [← add_field _ _ 1 (by omega)]; exact hc 1 _ rfl, by rw [← add_field _ _ 2 (by omega)]; exact hc 2 _ rfl, by rw [← add_field _ _ 3 (by omega)]; exact hc 3 _ rfl, by rw [← add_field _ _ 4 (by omega)]; exact hc 4 _ rfl, by rw [← add_field _ _ 5 (by omega)]; exact hc 5 _ rfl, by rw [← add_field _ _ 6 (by omega)]; exact hc 6 _ rfl, by rw [← add_field _ _ 7 (by omega)]; exact hc 7 _ rfl, l6, g6⟩

/-! #### struct type 89 -/
structure S89 where
  f0 : Int
  f1 : Int
  f2 : ByteArray
  f3 : Int
def z89 : S89 := ⟨(0 : Int), (0 : Int), (⟨#[]⟩ : ByteArray), (0 : Int)⟩
def k89 : Kd S89 := Kd.iso (Kd.pair (Kd.int .i64) (Kd.pair (Kd.int .i64) (Kd.pair Kd.string (Kd.int .i64)))) (fun x : S89 => (x.f0, x.f1, x.f2, x.f3))
theorem k89_open {w : World} {x : S89} {cs : List Value} (h : k89.K w x cs) : cs = [.int .i64 x.f0, .int .i64 x.f1, .string x.f2, .int .i64 x.f3] := by
  obtain ⟨_, _, rfl, rfl, ⟨_, _, rfl, rfl, ⟨_, _, rfl, rfl, rfl⟩⟩⟩ := h
  exact rfl
theorem k89_openM {w : World} {base : Nat} {ok : Nat → Prop} {x : S89} {cs : List Value} (h : k89.M w base ok x cs) : cs = [.int .i64 x.f0, .int .i64 x.f1, .string x.f2, .int .i64 x.f3] := by
  obtain ⟨_, _, rfl, rfl, ⟨_, _, rfl, rfl, ⟨_, _, rfl, rfl, rfl⟩⟩⟩ := h
  exact rfl
theorem k89_mk (w : World) (x : S89)  : k89.K w x [.int .i64 x.f0, .int .i64 x.f1, .string x.f2, .int .i64 x.f3] := ⟨[.int .i64 x.f0], [.int .i64 x.f1, .string x.f2, .int .i64 x.f3], rfl, rfl, ⟨[.int .i64 x.f1], [.string x.f2, .int .i64 x.f3], rfl, rfl, ⟨[.string x.f2], [.int .i64 x.f3], rfl, rfl, rfl⟩⟩⟩
theorem k89_mkM (w : World) (base : Nat) (ok : Nat → Prop) (x : S89)  : k89.M w base ok x [.int .i64 x.f0, .int .i64 x.f1, .string x.f2, .int .i64 x.f3] := ⟨[.int .i64 x.f0], [.int .i64 x.f1, .string x.f2, .int .i64 x.f3], rfl, rfl, ⟨[.int .i64 x.f1], [.string x.f2, .int .i64 x.f3], rfl, rfl, ⟨[.string x.f2], [.int .i64 x.f3], rfl, rfl, rfl⟩⟩⟩
def rd_T89 (xs : List S89) (i : Int) : S89 := xs.getD i.toNat z89
theorem at_T89 {w : World} {A : Option Addr} {n : Nat} {xs : List S89} (h : Kd.C k89 w A n xs) (i : Int) (h0 : 0 ≤ i) (h1 : i < n) : ∃ ad , A = some ad ∧ w.cell? (ad.add (i.toNat * 4)) = some (.int .i64 (rd_T89 xs i).f0) ∧ w.cell? ⟨(ad.add (i.toNat * 4)).block, (ad.add (i.toNat * 4)).off + 1, none⟩ = some (.int .i64 (rd_T89 xs i).f1) ∧ w.cell? ⟨(ad.add (i.toNat * 4)).block, (ad.add (i.toNat * 4)).off + 2, none⟩ = some (.string (rd_T89 xs i).f2) ∧ w.cell? ⟨(ad.add (i.toNat * 4)).block, (ad.add (i.toNat * 4)).off + 3, none⟩ = some (.int .i64 (rd_T89 xs i).f3) := by
  obtain ⟨ad, c, e, _, hK, hc0⟩ := Kd.C_get h z89 i h0 h1
  have hc : ∀ j u, c[j]? = some u → w.cell? (ad.add (i.toNat * 4 + j)) = some u := hc0
  obtain rfl := k89_open hK
  exact ⟨ad, e, hc 0 _ rfl, by rw [← add_field _ _ 1 (by omega)]; exact hc 1 _ rfl, by rw [← add_field _ _ 2 (by omega)]; exact hc 2 _ rfl, by rw [← add_field _ _ 3 (by omega)]; exact hc 3 _ rfl⟩

/-! #### struct type 150 -/
structure S150 where
  f0 : Int
  f1 : S40
def z150 : S150 := ⟨(0 : Int), z40⟩
def k150 : Kd S150 := Kd.iso (Kd.pair (Kd.int .i64) k40) (fun x : S150 => (x.f0, x.f1))
theorem k150_open {w : World} {x : S150} {cs : List Value} (h : k150.K w x cs) : ∃ A7 c7, cs = [.int .i64 x.f0, .string x.f1.f0, .int .i64 x.f1.f1, .int .i64 x.f1.f2, .int .i64 x.f1.f3, .int .i64 x.f1.f4, .int .i64 x.f1.f5, .slice A7 x.f1.f6.length c7, .string x.f1.f7] ∧ x.f1.f6.length ≤ c7 ∧ k109.C w A7 x.f1.f6.length x.f1.f6 := by
  obtain ⟨_, _, rfl, rfl, s1⟩ := h
  obtain ⟨A7, c7, rfl, l7, g7⟩ := k40_open s1
  exact ⟨A7, c7, rfl, l7, g7⟩
theorem k150_openM {w : World} {base : Nat} {ok : Nat → Prop} {x : S150} {cs : List Value} (h : k150.M w base ok x cs) : ∃ v7, cs = [.int .i64 x.f0, .string x.f1.f0, .int .i64 x.f1.f1, .int .i64 x.f1.f2, .int .i64 x.f1.f3, .int .i64 x.f1.f4, .int .i64 x.f1.f5, v7, .string x.f1.f7] ∧ k109.R 109 w base ok v7 x.f1.f6 := by
  obtain ⟨_, _, rfl, rfl, s1⟩ := h
  obtain ⟨v7, rfl, g7⟩ := k40_openM s1
  exact ⟨v7, rfl, g7⟩
theorem k150_mk (w : World) (x : S150) {A7 : Option Addr} {c7 : Nat} (l7 : x.f1.f6.length ≤ c7) (g7 : k109.C w A7 x.f1.f6.length x.f1.f6) : k150.K w x [.int .i64 x.f0, .string x.f1.f0, .int .i64 x.f1.f1, .int .i64 x.f1.f2, .int .i64 x.f1.f3, .int .i64 x.f1.f4, .int .i64 x.f1.f5, .slice A7 x.f1.f6.length c7, .string x.f1.f7] := ⟨[.int .i64 x.f0], [.string x.f1.f0, .int .i64 x.f1.f1, .int .i64 x.f1.f2, .int .i64 x.f1.f3, .int .i64 x.f1.f4, .int .i64 x.f1.f5, .slice A7 x.f1.f6.length c7, .string x.f1.f7], rfl, rfl, (k40_mk w x.f1 l7 g7)⟩
theorem k150_mkM (w : World) (base : Nat) (ok : Nat → Prop) (x : S150) {v7 : Value} (g7 : k109.R 109 w base ok v7 x.f1.f6) : k150.M w base ok x [.int .i64 x.f0, .string x.f1.f0, .int .i64 x.f1.f1, .int .i64 x.f1.f2, .int .i64 x.f1.f3, .int .i64 x.f1.f4, .int .i64 x.f1.f5, v7, .string x.f1.f7] := ⟨[.int .i64 x.f0], [.string x.f1.f0, .int .i64 x.f1.f1, .int .i64 x.f1.f2, .int .i64 x.f1.f3, .int .i64 x.f1.f4, .int .i64 x.f1.f5, v7, .string x.f1.f7], rfl, rfl, (k40_mkM w base ok x.f1 g7)⟩
def rd_T150 (xs : List S150) (i : Int) : S150 := xs.getD i.toNat z150
theorem at_T150 {w : World} {A : Option Addr} {n : Nat} {xs : List S150} (h : Kd.C k150 w A n xs) (i : Int) (h0 : 0 ≤ i) (h1 : i < n) : ∃ ad A7 c7, A = some ad ∧ w.cell? (ad.add (i.toNat * 9)) = some (.int .i64 (rd_T150 xs i).f0) ∧ w.cell? ⟨(ad.add (i.toNat * 9)).block, (ad.add (i.toNat * 9)).off + 1, none⟩ = some (.string (rd_T150 xs i).f1.f0) ∧ w.cell? ⟨(ad.add (i.toNat * 9)).block, (ad.add (i.toNat * 9)).off + 2, none⟩ = some (.int .i64 (rd_T150 xs i).f1.f1) ∧ w.cell? ⟨(ad.add (i.toNat * 9)).block, (ad.add (i.toNat * 9)).off + 3, none⟩ = some (.int .i64 (rd_T150 xs i).f1.f2) ∧ w.cell? ⟨(ad.add (i.toNat * 9)).block, (ad.add (i.toNat * 9)).off + 4, none⟩ = some (.int .i64 (rd_T150 xs i).f1.f3) ∧ w.cell? ⟨(ad.add (i.toNat * 9)).block, (ad.add (i.toNat * 9)).off + 5, none⟩ = some (.int .i64 (rd_T150 xs i).f1.f4) ∧ w.cell? ⟨(ad.add (i.toNat * 9)).block, (ad.add (i.toNat * 9)).off + 6, none⟩ = some (.int .i64 (rd_T150 xs i).f1.f5) ∧ w.cell? ⟨(ad.add (i.toNat * 9)).block, (ad.add (i.toNat * 9)).off + 7, none⟩ = some (.slice A7 (rd_T150 xs i).f1.f6.length c7) ∧ w.cell? ⟨(ad.add (i.toNat * 9)).block, (ad.add (i.toNat * 9)).off + 8, none⟩ = some (.string (rd_T150 xs i).f1.f7) ∧ (rd_T150 xs i).f1.f6.length ≤ c7 ∧ k109.C w A7 (rd_T150 xs i).f1.f6.length (rd_T150 xs i).f1.f6 := by
  obtain ⟨ad, c, e, _, hK, hc0⟩ := Kd.C_get h z150 i h0 h1
  have hc : ∀ j u, c[j]? = some u → w.cell? (ad.add (i.toNat * 9 + j)) = some u := hc0
  obtain ⟨A7, c7, rfl, l7, g7⟩ := k150_open hK
  exact ⟨ad, A7, c7, e, hc 0 _ rfl, by rw [← add_field _ _ 1 (by omega)]; exact hc 1 _ rfl, by rw [← add_field _ _ 2 (by omega)]; exact hc 2 _ rfl, by rw [← add_field _ _ 3 (by omega)]; exact hc 3 _ rfl, by rw [← add_field _ _ 4 (by omega)]; exact hc 4 _ rfl, by rw [← add_field _ _ 5 (by omega)]; exact hc 5 _ rfl, by rw [← add_field _ _ 6 (by omega)]; exact hc 6 _ rfl, by rw [← add_field _ _ 7 (by omega)]; exact hc 7 _ rfl, by rw [← add_field _ _ 8 (by omega)]; exact hc 8 _ rfl, l7, g7⟩

def rd_L17 (xs : List (List S89)) (i : Int) : (List S89) := xs.getD i.toNat ([] : List S89)
theorem at_L17 {w : World} {A : Option Addr} {n : Nat} {xs : List (List S89)} (h : Kd.C (Kd.slice 89 k89) w A n xs) (i : Int) (h0 : 0 ≤ i) (h1 : i < n) : ∃ ad A0 c0, A = some ad ∧ w.cell? (ad.add i.toNat) = some (.slice A0 (rd_L17 xs i).length c0) ∧ (rd_L17 xs i).length ≤ c0 ∧ k89.C w A0 (rd_L17 xs i).length (rd_L17 xs i) := by
  obtain ⟨ad, c, e, _, hK, hc0⟩ := Kd.C_get h ([] : List S89) i h0 h1
  have hc : ∀ j u, c[j]? = some u → w.cell? (ad.add (i.toNat * 1 + j)) = some u := hc0
  obtain ⟨A0, c0, rfl, l0, g0⟩ := hK
  exact ⟨ad, A0, c0, e, by have hq := hc 0 _ rfl; rwa [Nat.mul_one, Nat.add_zero] at hq, l0, g0⟩

def rd_L18 (xs : List (List S150)) (i : Int) : (List S150) := xs.getD i.toNat ([] : List S150)
theorem at_L18 {w : World} {A : Option Addr} {n : Nat} {xs : List (List S150)} (h : Kd.C (Kd.slice 150 k150) w A n xs) (i : Int) (h0 : 0 ≤ i) (h1 : i < n) : ∃ ad A0 c0, A = some ad ∧ w.cell? (ad.add i.toNat) = some (.slice A0 (rd_L18 xs i).length c0) ∧ (rd_L18 xs i).length ≤ c0 ∧ k150.C w A0 (rd_L18 xs i).length (rd_L18 xs i) := by
  obtain ⟨ad, c, e, _, hK, hc0⟩ := Kd.C_get h ([] : List S150) i h0 h1
  have hc : ∀ j u, c[j]? = some u → w.cell? (ad.add (i.toNat * 1 + j)) = some u := hc0
  obtain ⟨A0, c0, rfl, l0, g0⟩ := hK
  exact ⟨ad, A0, c0, e, by have hq := hc 0 _ rfl; rwa [Nat.mul_one, Nat.add_zero] at hq, l0, g0⟩

/-! #### struct type 31 -/
structure S31 where
  f0 : ByteArray
  f1 : Int
  f2 : (List S89)
  f3 : (List S150)
  f4 : (List Int)
def z31 : S31 := ⟨(⟨#[]⟩ : ByteArray), (0 : Int), ([] : List S89), ([] : List S150), ([] : List Int)⟩
def k31 : Kd S31 := Kd.iso (Kd.pair Kd.string (Kd.pair (Kd.int .i64) (Kd.pair (Kd.slice 89 k89) (Kd.pair (Kd.slice 150 k150) (Kd.slice 3 (Kd.int .i64)))))) (fun x : S31 => (x.f0, x.f1, x.f2, x.f3, x.f4))
theorem k31_open {w : World} {x : S31} {cs : List Value} (h : k31.K w x cs) : ∃ A2 c2 A3 c3 A4 c4, cs = [.string x.f0, .int .i64 x.f1, .slice A2 x.f2.length c2, .slice A3 x.f3.length c3, .slice A4 x.f4.length c4] ∧ x.f2.length ≤ c2 ∧ k89.C w A2 x.f2.length x.f2 ∧ x.f3.length ≤ c3 ∧ k150.C w A3 x.f3.length x.f3 ∧ x.f4.length ≤ c4 ∧ (Kd.int .i64).C w A4 x.f4.length x.f4 := by
  obtain ⟨_, _, rfl, rfl, ⟨_, _, rfl, rfl, ⟨_, _, rfl, ⟨A2, c2, rfl, l2, g2⟩, ⟨_, _, rfl, ⟨A3, c3, rfl, l3, g3⟩, ⟨A4, c4, rfl, l4, g4⟩⟩⟩⟩⟩ := h
  exact ⟨A2, c2, A3, c3, A4, c4, rfl, l2, g2, l3, g3, l4, g4⟩
theorem k31_openM {w : World} {base : Nat} {ok : Nat → Prop} {x : S31} {cs : List Value} (h : k31.M w base ok x cs) : ∃ v2 v3 v4, cs = [.string x.f0, .int .i64 x.f1, v2, v3, v4] ∧ k89.R 89 w base ok v2 x.f2 ∧ k150.R 150 w base ok v3 x.f3 ∧ (Kd.int .i64).R 3 w base ok v4 x.f4 := by
  obtain ⟨_, _, rfl, rfl, ⟨_, _, rfl, rfl, ⟨_, _, rfl, ⟨v2, rfl, g2⟩, ⟨_, _, rfl, ⟨v3, rfl, g3⟩, ⟨v4, rfl, g4⟩⟩⟩⟩⟩ := h
  exact ⟨v2, v3, v4, rfl, g2, g3, g4⟩
theorem k31_mk (w : World) (x : S31) {A2 : Option Addr} {c2 : Nat} (l2 : x.f2.length ≤ c2) (g2 : k89.C w A2 x.f2.length x.f2) {A3 : Option Addr} {c3 : Nat} (l3 : x.f3.length ≤ c3) (g3 : k150.C w A3 x.f3.length x.f3) {A4 : Option Addr} {c4 : Nat} (l4 : x.f4.length ≤ c4) (g4 : (Kd.int .i64).C w A4 x.f4.length x.f4) : k31.K w x [.string x.f0, .int .i64 x.f1, .slice A2 x.f2.length c2, .slice A3 x.f3.length c3, .slice A4 x.f4.length c4] := ⟨[.string x.f0], [.int .i64 x.f1, .slice A2 x.f2.length c2, .slice A3 x.f3.length c3, .slice A4 x.f4.length c4], rfl, rfl, ⟨[.int .i64 x.f1], [.slice A2 x.f2.length c2, .slice A3 x.f3.length c3, .slice A4 x.f4.length c4], rfl, rfl, ⟨[.slice A2 x.f2.length c2], [.slice A3 x.f3.length c3, .slice A4 x.f4.length c4], rfl, ⟨A2, c2, rfl, l2, g2⟩, ⟨[.slice A3 x.f3.length c3], [.slice A4 x.f4.length c4], rfl, ⟨A3, c3, rfl, l3, g3⟩, ⟨A4, c4, rfl, l4, g4⟩⟩⟩⟩⟩
theorem k31_mkM (w : World) (base : Nat) (ok : Nat → Prop) (x : S31) {v2 : Value} (g2 : k89.R 89 w base ok v2 x.f2) {v3 : Value} (g3 : k150.R 150 w base ok v3 x.f3) {v4 : Value} (g4 : (Kd.int .i64).R 3 w base ok v4 x.f4) : k31.M w base ok x [.string x.f0, .int .i64 x.f1, v2, v3, v4] := ⟨[.string x.f0], [.int .i64 x.f1, v2, v3, v4], rfl, rfl, ⟨[.int .i64 x.f1], [v2, v3, v4], rfl, rfl, ⟨[v2], [v3, v4], rfl, ⟨v2, rfl, g2⟩, ⟨[v3], [v4], rfl, ⟨v3, rfl, g3⟩, ⟨v4, rfl, g4⟩⟩⟩⟩⟩
def rd_T31 (xs : List S31) (i : Int) : S31 := xs.getD i.toNat z31
theorem at_T31 {w : World} {A : Option Addr} {n : Nat} {xs : List S31} (h : Kd.C k31 w A n xs) (i : Int) (h0 : 0 ≤ i) (h1 : i < n) : ∃ ad A2 c2 A3 c3 A4 c4, A = some ad ∧ w.cell? (ad.add (i.toNat * 5)) = some (.string (rd_T31 xs i).f0) ∧ w.cell? ⟨(ad.add (i.toNat * 5)).block, (ad.add (i.toNat * 5)).off + 1, none⟩ = some (.int .i64 (rd_T31 xs i).f1) ∧ w.cell? ⟨(ad.add (i.toNat * 5)).block, (ad.add (i.toNat * 5)).off + 2, none⟩ = some (.slice A2 (rd_T31 xs i).f2.length c2) ∧ w.cell? ⟨(ad.add (i.toNat * 5)).block, (ad.add (i.toNat * 5)).off + 3, none⟩ = some (.slice A3 (rd_T31 xs i).f3.length c3) ∧ w.cell? ⟨(ad.add (i.toNat * 5)).block, (ad.add (i.toNat * 5)).off + 4, none⟩ = some (.slice A4 (rd_T31 xs i).f4.length c4) ∧ (rd_T31 xs i).f2.length ≤ c2 ∧ k89.C w A2 (rd_T31 xs i).f2.length (rd_T31 xs i).f2 ∧ (rd_T31 xs i).f3.length ≤ c3 ∧ k150.C w A3 (rd_T31 xs i).f3.length (rd_T31 xs i).f3 ∧ (rd_T31 xs i).f4.length ≤ c4 ∧ (Kd.int .i64).C w A4 (rd_T31 xs i).f4.length (rd_T31 xs i).f4 := by
  obtain ⟨ad, c, e, _, hK, hc0⟩ := Kd.C_get h z31 i h0 h1
  have hc : ∀ j u, c[j]? = some u → w.cell? (ad.add (i.toNat * 5 + j)) = some u := hc0
  obtain ⟨A2, c2, A3, c3, A4, c4, rfl, l2, g2, l3, g3, l4, g4⟩ := k31_open hK
  exact ⟨ad, A2, c2, A3, c3, A4, c4, e, hc 0 _ rfl, by rw [← add_field _ _ 1 (by omega)]; exact hc 1 _ rfl, by rw [← add_field _ _ 2 (by omega)]; exact hc 2 _ rfl, by rw [← add_field _ _ 3 (by omega)]; exact hc 3 _ rfl, by rw [← add_field _ _ 4 (by omega)]; exact hc 4 _ rfl, l2, g2, l3, g3, l4, g4⟩

/-! #### struct type 100, nested in itself -/
structure S100 where
  f0 : Int
  f1 : ByteArray
  f2 : (List S100)
def z100 : S100 := ⟨(0 : Int), (⟨#[]⟩ : ByteArray), ([] : List S100)⟩
def F100 (d : Kd S100) : Kd S100 := Kd.iso (Kd.pair (Kd.int .i64) (Kd.pair Kd.string (Kd.slice 100 d))) (fun x : S100 => (x.f0, x.f1, x.f2))
theorem mono100 : Kd.Mono F100 := Kd.mono_iso _ (Kd.mono_pair (Kd.mono_const _) (Kd.mono_pair (Kd.mono_const _) (Kd.mono_slice 100 Kd.mono_id)))
theorem sub100 : Kd.Sub F100 [100] := Kd.sub_iso _ (Kd.sub_pair (Kd.sub_const _ (by decide)) (Kd.sub_pair (Kd.sub_const _ (by decide)) (Kd.sub_slice 100 (by decide) Kd.sub_id)))
theorem sz100 : ∀ n, (Kd.upto F100 3 [100] n).sz = 3 := Kd.upto_sz (fun _ => rfl)
def k100 : Kd S100 := Kd.fix F100 3 [100] sz100 (Kd.upto_E sub100)
theorem k100_open {w : World} {x : S100} {cs : List Value} (h : k100.K w x cs) : ∃ A2 c2, cs = [.int .i64 x.f0, .string x.f1, .slice A2 x.f2.length c2] ∧ x.f2.length ≤ c2 ∧ k100.C w A2 x.f2.length x.f2 := by
  obtain ⟨n, h⟩ := h
  cases n with
  | zero => exact h.elim
  | succ n =>
    obtain ⟨_, _, rfl, rfl, ⟨_, _, rfl, rfl, ⟨A2, c2, rfl, l2, g2⟩⟩⟩ := h
    exact ⟨A2, c2, rfl, l2, Kd.fix_C g2⟩
theorem k100_openM {w : World} {base : Nat} {ok : Nat → Prop} {x : S100} {cs : List Value} (h : k100.M w base ok x cs) : ∃ v2, cs = [.int .i64 x.f0, .string x.f1, v2] ∧ k100.R 100 w base ok v2 x.f2 := by
  obtain ⟨n, h⟩ := h
  cases n with
  | zero => exact h.elim
  | succ n =>
    obtain ⟨_, _, rfl, rfl, ⟨_, _, rfl, rfl, ⟨v2, rfl, g2⟩⟩⟩ := h
    exact ⟨v2, rfl, Kd.fix_R g2⟩
theorem k100_mk (w : World) (x : S100) {A2 : Option Addr} {c2 : Nat} (l2 : x.f2.length ≤ c2) (g2 : k100.C w A2 x.f2.length x.f2) : k100.K w x [.int .i64 x.f0, .string x.f1, .slice A2 x.f2.length c2] := by
  obtain ⟨n2, q2⟩ := Kd.fix_C_back mono100 g2
  have r2 := Kd.upto_C_le mono100 sz100 (show n2 ≤ n2 by omega) q2
  exact ⟨n2 + 1, ⟨[.int .i64 x.f0], [.string x.f1, .slice A2 x.f2.length c2], rfl, rfl, ⟨[.string x.f1], [.slice A2 x.f2.length c2], rfl, rfl, ⟨A2, c2, rfl, l2, r2⟩⟩⟩⟩
theorem k100_mkM (w : World) (base : Nat) (ok : Nat → Prop) (x : S100) {v2 : Value} (g2 : k100.R 100 w base ok v2 x.f2) : k100.M w base ok x [.int .i64 x.f0, .string x.f1, v2] := by
  obtain ⟨n2, q2⟩ := Kd.fix_R_back mono100 g2
  have r2 := Kd.upto_R_le mono100 sz100 (show n2 ≤ n2 by omega) q2
  exact ⟨n2 + 1, ⟨[.int .i64 x.f0], [.string x.f1, v2], rfl, rfl, ⟨[.string x.f1], [v2], rfl, rfl, ⟨v2, rfl, r2⟩⟩⟩⟩
def rd_T100 (xs : List S100) (i : Int) : S100 := xs.getD i.toNat z100
theorem at_T100 {w : World} {A : Option Addr} {n : Nat} {xs : List S100} (h : Kd.C k100 w A n xs) (i : Int) (h0 : 0 ≤ i) (h1 : i < n) : ∃ ad A2 c2, A = some ad ∧ w.cell? (ad.add (i.toNat * 3)) = some (.int .i64 (rd_T100 xs i).f0) ∧ w.cell? ⟨(ad.add (i.toNat * 3)).block, (ad.add (i.toNat * 3)).off + 1, none⟩ = some (.string (rd_T100 xs i).f1) ∧ w.cell? ⟨(ad.add (i.toNat * 3)).block, (ad.add (i.toNat * 3)).off + 2, none⟩ = some (.slice A2 (rd_T100 xs i).f2.length c2) ∧ (rd_T100 xs i).f2.length ≤ c2 ∧ k100.C w A2 (rd_T100 xs i).f2.length (rd_T100 xs i).f2 := by
  obtain ⟨ad, c, e, _, hK, hc0⟩ := Kd.C_get h z100 i h0 h1
  have hc : ∀ j u, c[j]? = some u → w.cell? (ad.add (i.toNat * 3 + j)) = some u := hc0
  obtain ⟨A2, c2, rfl, l2, g2⟩ := k100_open hK
  exact ⟨ad, A2, c2, e, hc 0 _ rfl, by rw [← add_field _ _ 1 (by omega)]; exact hc 1 _ rfl, by rw [← add_field _ _ 2 (by omega)]; exact hc 2 _ rfl, l2, g2⟩

/-! #### struct type 114 -/
structure S114 where
  f0 : Bool
def z114 : S114 := ⟨false⟩
def k114 : Kd S114 := Kd.iso Kd.bool (fun x : S114 => x.f0)
theorem k114_open {w : World} {x : S114} {cs : List Value} (h : k114.K w x cs) : cs = [.bool x.f0] := by
  obtain rfl := h
  exact rfl
theorem k114_openM {w : World} {base : Nat} {ok : Nat → Prop} {x : S114} {cs : List Value} (h : k114.M w base ok x cs) : cs = [.bool x.f0] := by
  obtain rfl := h
  exact rfl
theorem k114_mk (w : World) (x : S114)  : k114.K w x [.bool x.f0] := rfl
theorem k114_mkM (w : World) (base : Nat) (ok : Nat → Prop) (x : S114)  : k114.M w base ok x [.bool x.f0] := rfl
def rd_T114 (xs : List S114) (i : Int) : S114 := xs.getD i.toNat z114
theorem at_T114 {w : World} {A : Option Addr} {n : Nat} {xs : List S114} (h : Kd.C k114 w A n xs) (i : Int) (h0 : 0 ≤ i) (h1 : i < n) : ∃ ad , A = some ad ∧ w.cell? (ad.add i.toNat) = some (.bool (rd_T114 xs i).f0) := by
  obtain ⟨ad, c, e, _, hK, hc0⟩ := Kd.C_get h z114 i h0 h1
  have hc : ∀ j u, c[j]? = some u → w.cell? (ad.add (i.toNat * 1 + j)) = some u := hc0
  obtain rfl := k114_open hK
  exact ⟨ad, e, by have hq := hc 0 _ rfl; rwa [Nat.mul_one, Nat.add_zero] at hq⟩

/-! #### struct type 180 -/
structure S180 where
  f0 : Int
  f1 : ByteArray
  f2 : ByteArray
  f3 : Int
  f4 : Int
  f5 : ByteArray
  f6 : Bool
  f7 : Int
  f8 : Int
  f9 : (List Int)
  f10 : (List ByteArray)
  f11 : (List ByteArray)
  f12 : ByteArray
def z180 : S180 := ⟨(0 : Int), (⟨#[]⟩ : ByteArray), (⟨#[]⟩ : ByteArray), (0 : Int), (0 : Int), (⟨#[]⟩ : ByteArray), false, (0 : Int), (0 : Int), ([] : List Int), ([] : List ByteArray), ([] : List ByteArray), (⟨#[]⟩ : ByteArray)⟩
def k180 : Kd S180 := Kd.iso (Kd.pair (Kd.int .i64) (Kd.pair Kd.string (Kd.pair Kd.string (Kd.pair (Kd.int .i64) (Kd.pair (Kd.int .i64) (Kd.pair Kd.string (Kd.pair Kd.bool (Kd.pair (Kd.int .i64) (Kd.pair (Kd.int .i64) (Kd.pair (Kd.slice 3 (Kd.int .i64)) (Kd.pair (Kd.slice 9 Kd.string) (Kd.pair (Kd.slice 9 Kd.string) Kd.string)))))))))))) (fun x : S180 => (x.f0, x.f1, x.f2, x.f3, x.f4, x.f5, x.f6, x.f7, x.f8, x.f9, x.f10, x.f11, x.f12))
theorem k180_open {w : World} {x : S180} {cs : List Value} (h : k180.K w x cs) : ∃ A9 c9 A10 c10 A11 c11, cs = [.int .i64 x.f0, .string x.f1, .string x.f2, .int .i64 x.f3, .int .i64 x.f4, .string x.f5, .bool x.f6, .int .i64 x.f7, .int .i64 x.f8, .slice A9 x.f9.length c9, .slice A10 x.f10.length c10, .slice A11 x.f11.length c11, .string x.f12] ∧ x.f9.length ≤ c9 ∧ (Kd.int .i64).C w A9 x.f9.length x.f9 ∧ x.f10.length ≤ c10 ∧ Kd.string.C w A10 x.f10.length x.f10 ∧ x.f11.length ≤ c11 ∧ Kd.string.C w A11 x.f11.length x.f11 := by
  obtain ⟨_, _, rfl, rfl, ⟨_, _, rfl, rfl, ⟨_, _, rfl, rfl, ⟨_, _, rfl, rfl, ⟨_, _, rfl, rfl, ⟨_, _, rfl, rfl, ⟨_, _, rfl, rfl, ⟨_, _, rfl, rfl, ⟨_, _, rfl, rfl, ⟨_, _, rfl, ⟨A9, c9, rfl, l9, g9⟩, ⟨_, _, rfl, ⟨A10, c10, rfl, l10, g10⟩, ⟨_, _, rfl, ⟨A11, c11, rfl, l11, g11⟩, rfl⟩⟩⟩⟩⟩⟩⟩⟩⟩⟩⟩⟩ := h
  exact ⟨A9, c9, A10, c10, A11, c11, rfl, l9, g9, l10, g10, l11, g11⟩
theorem k180_openM {w : World} {base : Nat} {ok : Nat → Prop} {x : S180} {cs : List Value} (h : k180.M w base ok x cs) : ∃ v9 v10 v11, cs = [.int .i64 x.f0, .string x.f1, .string x.f2, .int .i64 x.f3, .int .i64 x.f4, .string x.f5, .bool x.f6, .int .i64 x.f7, .int .i64 x.f8, v9, v10, v11, .string x.f12] ∧ (Kd.int .i64).R 3 w base ok v9 x.f9 ∧ Kd.string.R 9 w base ok v10 x.f10 ∧ Kd.string.R 9 w base ok v11 x.f11 := by
  obtain ⟨_, _, rfl, rfl, ⟨_, _, rfl, rfl, ⟨_, _, rfl, rfl, ⟨_, _, rfl, rfl, ⟨_, _, rfl, rfl, ⟨_, _, rfl, rfl, ⟨_, _, rfl, rfl, ⟨_, _, rfl, rfl, ⟨_, _, rfl, rfl, ⟨_, _, rfl, ⟨v9, rfl, g9⟩, ⟨_, _, rfl, ⟨v10, rfl, g10⟩, ⟨_, _, rfl, ⟨v11, rfl, g11⟩, rfl⟩⟩⟩⟩⟩⟩⟩⟩⟩⟩⟩⟩ := h
  exact ⟨v9, v10, v11, rfl, g9, g10, g11⟩
theorem k180_mk (w : World) (x : S180) {A9 : Option Addr} {c9 : Nat} (l9 : x.f9.length ≤ c9) (g9 : (Kd.int .i64).C w A9 x.f9.length x.f9) {A10 : Option Addr} {c10 : Nat} (l10 : x.f10.length ≤ c10) (g10 : Kd.string.C w A10 x.f10.length x.f10) {A11 : Option Addr} {c11 : Nat} (l11 : x.f11.length ≤ c11) (g11 : Kd.string.C w A11 x.f11.length x.f11) : k180.K w x [.int .i64 x.f0, .string x.f1, .string x.f2, .int .i64 x.f3, .int .i64 x.f4, .string x.f5, .bool x.f6, .int .i64 x.f7, .int .i64 x.f8, .slice A9 x.f9.length c9, .slice A10 x.f10.length c10, .slice A11 x.f11.length c11, .string x.f12] := ⟨[.int .i64 x.f0], [.string x.f1, .string x.f2, .int .i64 x.f3, .int .i64 x.f4, .string x.f5, .bool x.f6, .int .i64 x.f7, .int .i64 x.f8, .slice A9 x.f9.length c9, .slice A10 x.f10.length c10, .slice A11 x.f11.length c11, .string x.f12], rfl, rfl, ⟨[.string x.f1], [.string x.f2, .int .i64 x.f3, .int .i64 x.f4, .string x.f5, .bool x.f6, .int .i64 x.f7, .int .i64 x.f8, .slice A9 x.f9.length c9, .slice A10 x.f10.length c10, .slice A11 x.f11.length c11, .string x.f12], rfl, rfl, ⟨[.string x.f2], [.int .i64 x.f3, .int .i64 x.f4, .string x.f5, .bool x.f6, .int .i64 x.f7, .int .i64 x.f8, .slice A9 x.f9.length c9, .slice A10 x.f10.length c10, .slice A11 x.f11.length c11, .string x.f12], rfl, rfl, ⟨[.int .i64 x.f3], [.int .i64 x.f4, .string x.f5, .bool x.f6, .int .i64 x.f7, .int .i64 x.f8, .slice A9 x.f9.length c9, .slice A10 x.f10.length c10, .slice A11 x.f11.length c11, .string x.f12], rfl, rfl, ⟨[.int .i64 x.f4], [.string x.f5, .bool x.f6, .int .i64 x.f7, .int .i64 x.f8, .slice A9 x.f9.length c9, .slice A10 x.f10.length c10, .slice A11 x.f11.length c11, .string x.f12], rfl, rfl, ⟨[.string x.f5], [.bool x.f6, .int .i64 x.f7, .int .i64 x.f8, .slice A9 x.f9.length c9, .slice A10 x.f10.length c10, .slice A11 x.f11.length c11, .string x.f12], rfl, rfl, ⟨[.bool x.f6], [.int .i64 x.f7, .int .i64 x.f8, .slice A9 x.f9.length c9, .slice A10 x.f10.length c10, .slice A11 x.f11.length c11, .string x.f12], rfl, rfl, ⟨[.int .i64 x.f7], [.int .i64 x.f8, .slice A9 x.f9.length c9, .slice A10 x.f10.length c10, .slice A11 x.f11.length c11, .string x.f12], rfl, rfl, ⟨[.int .i64 x.f8], [.slice A9 x.f9.length c9, .slice A10 x.f10.length c10, .slice A11 x.f11.length c11, .string x.f12], rfl, rfl, ⟨[.slice A9 x.f9.length c9], [.slice A10 x.f10.length c10, .slice A11 x.f11.length c11, .string x.f12], rfl, ⟨A9, c9, rfl, l9, g9⟩, ⟨[.slice A10 x.f10.length c10], [.slice A11 x.f11.length c11, .string x.f12], rfl, ⟨A10, c10, rfl, l10, g10⟩, ⟨[.slice A11 x.f11.length c11], [.string x.f12], rfl, ⟨A11, c11, rfl, l11, g11⟩, rfl⟩⟩⟩⟩⟩⟩⟩⟩⟩⟩⟩⟩
theorem k180_mkM (w : World) (base : Nat) (ok : Nat → Prop) (x : S180) {v9 : Value} (g9 : (Kd.int .i64).R 3 w base ok v9 x.f9) {v10 : Value} (g10 : Kd.string.R 9 w base ok v10 x.f10) {v11 : Value} (g11 : Kd.string.R 9 w base ok v11 x.f11) : k180.M w base ok x [.int .i64 x.f0, .string x.f1, .string x.f2, .int .i64 x.f3, .int .i64 x.f4, .string x.f5, .bool x.f6, .int .i64 x.f7, .int .i64 x.f8, v9, v10, v11, .string x.f12] := ⟨[.int .i64 x.f0], [.string x.f1, .string x.f2, .int .i64 x.f3, .int .i64 x.f4, .string x.f5, .bool x.f6, .int .i64 x.f7, .int .i64 x.f8, v9, v10, v11, .string x.f12], rfl, rfl, ⟨[.string x.f1], [.string x.f2, .int .i64 x.f3, .int .i64 x.f4, .string x.f5, .bool x.f6, .int .i64 x.f7, .int .i64 x.f8, v9, v10, v11, .string x.f12], rfl, rfl, ⟨[.string x.f2], [.int .i64 x.f3, .int .i64 x.f4, .string x.f5, .bool x.f6, .int .i64 x.f7, .int .i64 x.f8, v9, v10, v11, .string x.f12], rfl, rfl, ⟨[.int .i64 x.f3], [.int .i64 x.f4, .string x.f5, .bool x.f6, .int .i64 x.f7, .int .i64 x.f8, v9, v10, v11, .string x.f12], rfl, rfl, ⟨[.int .i64 x.f4], [.string x.f5, .bool x.f6, .int .i64 x.f7, .int .i64 x.f8, v9, v10, v11, .string x.f12], rfl, rfl, ⟨[.string x.f5], [.bool x.f6, .int .i64 x.f7, .int .i64 x.f8, v9, v10, v11, .string x.f12], rfl, rfl, ⟨[.bool x.f6], [.int .i64 x.f7, .int .i64 x.f8, v9, v10, v11, .string x.f12], rfl, rfl, ⟨[.int .i64 x.f7], [.int .i64 x.f8, v9, v10, v11, .string x.f12], rfl, rfl, ⟨[.int .i64 x.f8], [v9, v10, v11, .string x.f12], rfl, rfl, ⟨[v9], [v10, v11, .string x.f12], rfl, ⟨v9, rfl, g9⟩, ⟨[v10], [v11, .string x.f12], rfl, ⟨v10, rfl, g10⟩, ⟨[v11], [.string x.f12], rfl, ⟨v11, rfl, g11⟩, rfl⟩⟩⟩⟩⟩⟩⟩⟩⟩⟩⟩⟩
def rd_T180 (xs : List S180) (i : Int) : S180 := xs.getD i.toNat z180
theorem at_T180 {w : World} {A : Option Addr} {n : Nat} {xs : List S180} (h : Kd.C k180 w A n xs) (i : Int) (h0 : 0 ≤ i) (h1 : i < n) : ∃ ad A9 c9 A10 c10 A11 c11, A = some ad ∧ w.cell? (ad.add (i.toNat * 13)) = some (.int .i64 (rd_T180 xs i).f0) ∧ w.cell? ⟨(ad.add (i.toNat * 13)).block, (ad.add (i.toNat * 13)).off + 1, none⟩ = some (.string (rd_T180 xs i).f1) ∧ w.cell? ⟨(ad.add (i.toNat * 13)).block, (ad.add (i.toNat * 13)).off + 2, none⟩ = some (.string (rd_T180 xs i).f2) ∧ w.cell? ⟨(ad.add (i.toNat * 13)).block, (ad.add (i.toNat * 13)).off + 3, none⟩ = some (.int .i64 (rd_T180 xs i).f3) ∧ w.cell? ⟨(ad.add (i.toNat * 13)).block, (ad.add (i.toNat * 13)).off + 4, none⟩ = some (.int .i64 (rd_T180 xs i).f4) ∧ w.cell? ⟨(ad.add (i.toNat * 13)).block, (ad.add (i.toNat * 13)).off + 5, none⟩ = some (.string (rd_T180 xs i).f5) ∧ w.cell? ⟨(ad.add (i.toNat * 13)).block, (ad.add (i.toNat * 13)).off + 6, none⟩ = some (.bool (rd_T180 xs i).f6) ∧ w.cell? ⟨(ad.add (i.toNat * 13)).block, (ad.add (i.toNat * 13)).off + 7, none⟩ = some (.int .i64 (rd_T180 xs i).f7) ∧ w.cell? ⟨(ad.add (i.toNat * 13)).block, (ad.add (i.toNat * 13)).off + 8, none⟩ = some (.int .i64 (rd_T180 xs i).f8) ∧ w.cell? ⟨(ad.add (i.toNat * 13)).block, (ad.add (i.toNat * 13)).off + 9, none⟩ = some (.slice A9 (rd_T180 xs i).f9.length c9) ∧ w.cell? ⟨(ad.add (i.toNat * 13)).block, (ad.add (i.toNat * 13)).off + 10, none⟩ = some (.slice A10 (rd_T180 xs i).f10.length c10) ∧ w.cell? ⟨(ad.add (i.toNat * 13)).block, (ad.add (i.toNat * 13)).off + 11, none⟩ = some (.slice A11 (rd_T180 xs i).f11.length c11) ∧ w.cell? ⟨(ad.add (i.toNat * 13)).block, (ad.add (i.toNat * 13)).off + 12, none⟩ = some (.string (rd_T180 xs i).f12) ∧ (rd_T180 xs i).f9.length ≤ c9 ∧ (Kd.int .i64).C w A9 (rd_T180 xs i).f9.length (rd_T180 xs i).f9 ∧ (rd_T180 xs i).f10.length ≤ c10 ∧ Kd.string.C w A10 (rd_T180 xs i).f10.length (rd_T180 xs i).f10 ∧ (rd_T180 xs i).f11.length ≤ c11 ∧ Kd.string.C w A11 (rd_T180 xs i).f11.length (rd_T180 xs i).f11 := by
  obtain ⟨ad, c, e, _, hK, hc0⟩ := Kd.C_get h z180 i h0 h1
  have hc : ∀ j u, c[j]? = some u → w.cell? (ad.add (i.toNat * 13 + j)) = some u := hc0
  obtain ⟨A9, c9, A10, c10, A11, c11, rfl, l9, g9, l10, g10, l11, g11⟩ := k180_open hK
  exact ⟨ad, A9, c9, A10, c10, A11, c11, e, hc 0 _ rfl, by rw [← add_field _ _ 1 (by omega)]; exact hc 1 _ rfl, by rw [← add_field _ _ 2 (by omega)]; exact hc 2 _ rfl, by rw [← add_field _ _ 3 (by omega)]; exact hc 3 _ rfl, by rw [← add_field _ _ 4 (by omega)]; exact hc 4 _ rfl, by rw [← add_field _ _ 5 (by omega)]; exact hc 5 _ rfl, by rw [← add_field _ _ 6 (by omega)]; exact hc 6 _ rfl, by rw [← add_field _ _ 7 (by omega)]; exact hc 7 _ rfl, by rw [← add_field _ _ 8 (by omega)]; exact hc 8 _ rfl, by rw [← add_field _ _ 9 (by omega)]; exact hc 9 _ rfl, by rw [← add_field _ _ 10 (by omega)]; exact hc 10 _ rfl, by rw [← add_field _ _ 11 (by omega)]; exact hc 11 _ rfl, by rw [← add_field _ _ 12 (by omega)]; exact hc 12 _ rfl, l9, g9, l10, g10, l11, g11⟩

/-! #### struct type 237 -/
structure S237 where
  f0 : Int
  f1 : Int
def z237 : S237 := ⟨(0 : Int), (0 : Int)⟩
def k237 : Kd S237 := Kd.iso (Kd.pair (Kd.int .i64) (Kd.int .i64)) (fun x : S237 => (x.f0, x.f1))
theorem k237_open {w : World} {x : S237} {cs : List Value} (h : k237.K w x cs) : cs = [.int .i64 x.f0, .int .i64 x.f1] := by
  obtain ⟨_, _, rfl, rfl, rfl⟩ := h
  exact rfl
theorem k237_openM {w : World} {base : Nat} {ok : Nat → Prop} {x : S237} {cs : List Value} (h : k237.M w base ok x cs) : cs = [.int .i64 x.f0, .int .i64 x.f1] := by
  obtain ⟨_, _, rfl, rfl, rfl⟩ := h
  exact rfl
theorem k237_mk (w : World) (x : S237)  : k237.K w x [.int .i64 x.f0, .int .i64 x.f1] := ⟨[.int .i64 x.f0], [.int .i64 x.f1], rfl, rfl, rfl⟩
theorem k237_mkM (w : World) (base : Nat) (ok : Nat → Prop) (x : S237)  : k237.M w base ok x [.int .i64 x.f0, .int .i64 x.f1] := ⟨[.int .i64 x.f0], [.int .i64 x.f1], rfl, rfl, rfl⟩
def rd_T237 (xs : List S237) (i : Int) : S237 := xs.getD i.toNat z237
theorem at_T237 {w : World} {A : Option Addr} {n : Nat} {xs : List S237} (h : Kd.C k237 w A n xs) (i : Int) (h0 : 0 ≤ i) (h1 : i < n) : ∃ ad , A = some ad ∧ w.cell? (ad.add (i.toNat * 2)) = some (.int .i64 (rd_T237 xs i).f0) ∧ w.cell? ⟨(ad.add (i.toNat * 2)).block, (ad.add (i.toNat * 2)).off + 1, none⟩ = some (.int .i64 (rd_T237 xs i).f1) := by
  obtain ⟨ad, c, e, _, hK, hc0⟩ := Kd.C_get h z237 i h0 h1
  have hc : ∀ j u, c[j]? = some u → w.cell? (ad.add (i.toNat * 2 + j)) = some u := hc0
  obtain rfl := k237_open hK
  exact ⟨ad, e, hc 0 _ rfl, by rw [← add_field _ _ 1 (by omega)]; exact hc 1 _ rfl⟩

def rd_L25 (xs : List (List S237)) (i : Int) : (List S237) := xs.getD i.toNat ([] : List S237)
theorem at_L25 {w : World} {A : Option Addr} {n : Nat} {xs : List (List S237)} (h : Kd.C (Kd.slice 237 k237) w A n xs) (i : Int) (h0 : 0 ≤ i) (h1 : i < n) : ∃ ad A0 c0, A = some ad ∧ w.cell? (ad.add i.toNat) = some (.slice A0 (rd_L25 xs i).length c0) ∧ (rd_L25 xs i).length ≤ c0 ∧ k237.C w A0 (rd_L25 xs i).length (rd_L25 xs i) := by
  obtain ⟨ad, c, e, _, hK, hc0⟩ := Kd.C_get h ([] : List S237) i h0 h1
  have hc : ∀ j u, c[j]? = some u → w.cell? (ad.add (i.toNat * 1 + j)) = some u := hc0
  obtain ⟨A0, c0, rfl, l0, g0⟩ := hK
  exact ⟨ad, A0, c0, e, by have hq := hc 0 _ rfl; rwa [Nat.mul_one, Nat.add_zero] at hq, l0, g0⟩

/-! #### struct type 184 -/
structure S184 where
  f0 : ByteArray
  f1 : Int
  f2 : Int
  f3 : Int
  f4 : Int
  f5 : (List S237)
  f6 : ByteArray
def z184 : S184 := ⟨(⟨#[]⟩ : ByteArray), (0 : Int), (0 : Int), (0 : Int), (0 : Int), ([] : List S237), (⟨#[]⟩ : ByteArray)⟩
def k184 : Kd S184 := Kd.iso (Kd.pair Kd.string (Kd.pair (Kd.int .i64) (Kd.pair (Kd.int .i64) (Kd.pair (Kd.int .i64) (Kd.pair (Kd.int .i64) (Kd.pair (Kd.slice 237 k237) Kd.string)))))) (fun x : S184 => (x.f0, x.f1, x.f2, x.f3, x.f4, x.f5, x.f6))
theorem k184_open {w : World} {x : S184} {cs : List Value} (h : k184.K w x cs) : ∃ A5 c5, cs = [.string x.f0, .int .i64 x.f1, .int .i64 x.f2, .int .i64 x.f3, .int .i64 x.f4, .slice A5 x.f5.length c5, .string x.f6] ∧ x.f5.length ≤ c5 ∧ k237.C w A5 x.f5.length x.f5 := by
  obtain ⟨_, _, rfl, rfl, ⟨_, _, rfl, rfl, ⟨_, _, rfl, rfl, ⟨_, _, rfl, rfl, ⟨_, _, rfl, rfl, ⟨_, _, rfl, ⟨A5, c5, rfl, l5, g5⟩, rfl⟩⟩⟩⟩⟩⟩ := h
  exact ⟨A5, c5, rfl, l5, g5⟩
theorem k184_openM {w : World} {base : Nat} {ok : Nat → Prop} {x : S184} {cs : List Value} (h : k184.M w base ok x cs) : ∃ v5, cs = [.string x.f0, .int .i64 x.f1, .int .i64 x.f2, .int .i64 x.f3, .int .i64 x.f4, v5, .string x.f6] ∧ k237.R 237 w base ok v5 x.f5 := by
  obtain ⟨_, _, rfl, rfl, ⟨_, _, rfl, rfl, ⟨_, _, rfl, rfl, ⟨_, _, rfl, rfl, ⟨_, _, rfl, rfl, ⟨_, _, rfl, ⟨v5, rfl, g5⟩, rfl⟩⟩⟩⟩⟩⟩ := h
  exact ⟨v5, rfl, g5⟩
theorem k184_mk (w : World) (x : S184) {A5 : Option Addr} {c5 : Nat} (l5 : x.f5.length ≤ c5) (g5 : k237.C w A5 x.f5.length x.f5) : k184.K w x [.string x.f0, .int .i64 x.f1, .int .i64 x.f2, .int .i64 x.f3, .int .i64 x.f4, .slice A5 x.f5.length c5, .string x.f6] := ⟨[.string x.f0], [.int .i64 x.f1, .int .i64 x.f2, .int .i64 x.f3, .int .i64 x.f4, .slice A5 x.f5.length c5, .string x.f6], rfl, rfl, ⟨[.int .i64 x.f1], [.int .i64 x.f2, .int .i64 x.f3, .int .i64 x.f4, .slice A5 x.f5.length c5, .string x.f6], rfl, rfl, ⟨[.int .i64 x.f2], [.int .i64 x.f3, .int .i64 x.f4, .slice A5 x.f5.length c5, .string x.f6], rfl, rfl, ⟨[.int .i64 x.f3], [.int .i64 x.f4, .slice A5 x.f5.length c5, .string x.f6], rfl, rfl, ⟨[.int .i64 x.f4], [.slice A5 x.f5.length c5, .string x.f6], rfl, rfl, ⟨[.slice A5 x.f5.length c5], [.string x.f6], rfl, ⟨A5, c5, rfl, l5, g5⟩, rfl⟩⟩⟩⟩⟩⟩
theorem k184_mkM (w : World) (base : Nat) (ok : Nat → Prop) (x : S184) {v5 : Value} (g5 : k237.R 237 w base ok v5 x.f5) : k184.M w base ok x [.string x.f0, .int .i64 x.f1, .int .i64 x.f2, .int .i64 x.f3, .int .i64 x.f4, v5, .string x.f6] := ⟨[.string x.f0], [.int .i64 x.f1, .int .i64 x.f2, .int .i64 x.f3, .int .i64 x.f4, v5, .string x.f6], rfl, rfl, ⟨[.int .i64 x.f1], [.int .i64 x.f2, .int .i64 x.f3, .int .i64 x.f4, v5, .string x.f6], rfl, rfl, ⟨[.int .i64 x.f2], [.int .i64 x.f3, .int .i64 x.f4, v5, .string x.f6], rfl, rfl, ⟨[.int .i64 x.f3], [.int .i64 x.f4, v5, .string x.f6], rfl, rfl, ⟨[.int .i64 x.f4], [v5, .string x.f6], rfl, rfl, ⟨[v5], [.string x.f6], rfl, ⟨v5, rfl, g5⟩, rfl⟩⟩⟩⟩⟩⟩
def rd_T184 (xs : List S184) (i : Int) : S184 := xs.getD i.toNat z184
theorem at_T184 {w : World} {A : Option Addr} {n : Nat} {xs : List S184} (h : Kd.C k184 w A n xs) (i : Int) (h0 : 0 ≤ i) (h1 : i < n) : ∃ ad A5 c5, A = some ad ∧ w.cell? (ad.add (i.toNat * 7)) = some (.string (rd_T184 xs i).f0) ∧ w.cell? ⟨(ad.add (i.toNat * 7)).block, (ad.add (i.toNat * 7)).off + 1, none⟩ = some (.int .i64 (rd_T184 xs i).f1) ∧ w.cell? ⟨(ad.add (i.toNat * 7)).block, (ad.add (i.toNat * 7)).off + 2, none⟩ = some (.int .i64 (rd_T184 xs i).f2) ∧ w.cell? ⟨(ad.add (i.toNat * 7)).block, (ad.add (i.toNat * 7)).off + 3, none⟩ = some (.int .i64 (rd_T184 xs i).f3) ∧ w.cell? ⟨(ad.add (i.toNat * 7)).block, (ad.add (i.toNat * 7)).off + 4, none⟩ = some (.int .i64 (rd_T184 xs i).f4) ∧ w.cell? ⟨(ad.add (i.toNat * 7)).block, (ad.add (i.toNat * 7)).off + 5, none⟩ = some (.slice A5 (rd_T184 xs i).f5.length c5) ∧ w.cell? ⟨(ad.add (i.toNat * 7)).block, (ad.add (i.toNat * 7)).off + 6, none⟩ = some (.string (rd_T184 xs i).f6) ∧ (rd_T184 xs i).f5.length ≤ c5 ∧ k237.C w A5 (rd_T184 xs i).f5.length (rd_T184 xs i).f5 := by
  obtain ⟨ad, c, e, _, hK, hc0⟩ := Kd.C_get h z184 i h0 h1
  have hc : ∀ j u, c[j]? = some u → w.cell? (ad.add (i.toNat * 7 + j)) = some u := hc0
  obtain ⟨A5, c5, rfl, l5, g5⟩ := k184_open hK
  exact ⟨ad, A5, c5, e, hc 0 _ rfl, by rw [← add_field _ _ 1 (by omega)]; exact hc 1 _ rfl, by rw [← add_field _ _ 2 (by omega)]; exact hc 2 _ rfl, by rw [← add_field _ _ 3 (by omega)]; exact hc 3 _ rfl, by rw [← add_field _ _ 4 (by omega)]; exact hc 4 _ rfl, by rw [← add_field _ _ 5 (by omega)]; exact hc 5 _ rfl, by rw [← add_field _ _ 6 (by omega)]; exact hc 6 _ rfl, l5, g5⟩

/-! #### struct type 186 -/
structure S186 where
  f0 : ByteArray
  f1 : ByteArray
def z186 : S186 := ⟨(⟨#[]⟩ : ByteArray), (⟨#[]⟩ : ByteArray)⟩
def k186 : Kd S186 := Kd.iso (Kd.pair Kd.string Kd.string) (fun x : S186 => (x.f0, x.f1))
theorem k186_open {w : World} {x : S186} {cs : List Value} (h : k186.K w x cs) : cs = [.string x.f0, .string x.f1] := by
  obtain ⟨_, _, rfl, rfl, rfl⟩ := h
  exact rfl
theorem k186_openM {w : World} {base : Nat} {ok : Nat → Prop} {x : S186} {cs : List Value} (h : k186.M w base ok x cs) : cs = [.string x.f0, .string x.f1] := by
  obtain ⟨_, _, rfl, rfl, rfl⟩ := h
  exact rfl
theorem k186_mk (w : World) (x : S186)  : k186.K w x [.string x.f0, .string x.f1] := ⟨[.string x.f0], [.string x.f1], rfl, rfl, rfl⟩
theorem k186_mkM (w : World) (base : Nat) (ok : Nat → Prop) (x : S186)  : k186.M w base ok x [.string x.f0, .string x.f1] := ⟨[.string x.f0], [.string x.f1], rfl, rfl, rfl⟩
def rd_T186 (xs : List S186) (i : Int) : S186 := xs.getD i.toNat z186
theorem at_T186 {w : World} {A : Option Addr} {n : Nat} {xs : List S186} (h : Kd.C k186 w A n xs) (i : Int) (h0 : 0 ≤ i) (h1 : i < n) : ∃ ad , A = some ad ∧ w.cell? (ad.add (i.toNat * 2)) = some (.string (rd_T186 xs i).f0) ∧ w.cell? ⟨(ad.add (i.toNat * 2)).block, (ad.add (i.toNat * 2)).off + 1, none⟩ = some (.string (rd_T186 xs i).f1) := by
  obtain ⟨ad, c, e, _, hK, hc0⟩ := Kd.C_get h z186 i h0 h1
  have hc : ∀ j u, c[j]? = some u → w.cell? (ad.add (i.toNat * 2 + j)) = some u := hc0
  obtain rfl := k186_open hK
  exact ⟨ad, e, hc 0 _ rfl, by rw [← add_field _ _ 1 (by omega)]; exact hc 1 _ rfl⟩

def rd_L28 (xs : List (List S180)) (i : Int) : (List S180) := xs.getD i.toNat ([] : List S180)
theorem at_L28 {w : World} {A : Option Addr} {n : Nat} {xs : List (List S180)} (h : Kd.C (Kd.slice 180 k180) w A n xs) (i : Int) (h0 : 0 ≤ i) (h1 : i < n) : ∃ ad A0 c0, A = some ad ∧ w.cell? (ad.add i.toNat) = some (.slice A0 (rd_L28 xs i).length c0) ∧ (rd_L28 xs i).length ≤ c0 ∧ k180.C w A0 (rd_L28 xs i).length (rd_L28 xs i) := by
  obtain ⟨ad, c, e, _, hK, hc0⟩ := Kd.C_get h ([] : List S180) i h0 h1
  have hc : ∀ j u, c[j]? = some u → w.cell? (ad.add (i.toNat * 1 + j)) = some u := hc0
  obtain ⟨A0, c0, rfl, l0, g0⟩ := hK
  exact ⟨ad, A0, c0, e, by have hq := hc 0 _ rfl; rwa [Nat.mul_one, Nat.add_zero] at hq, l0, g0⟩

def rd_L29 (xs : List (List S184)) (i : Int) : (List S184) := xs.getD i.toNat ([] : List S184)
theorem at_L29 {w : World} {A : Option Addr} {n : Nat} {xs : List (List S184)} (h : Kd.C (Kd.slice 184 k184) w A n xs) (i : Int) (h0 : 0 ≤ i) (h1 : i < n) : ∃ ad A0 c0, A = some ad ∧ w.cell? (ad.add i.toNat) = some (.slice A0 (rd_L29 xs i).length c0) ∧ (rd_L29 xs i).length ≤ c0 ∧ k184.C w A0 (rd_L29 xs i).length (rd_L29 xs i) := by
  obtain ⟨ad, c, e, _, hK, hc0⟩ := Kd.C_get h ([] : List S184) i h0 h1
  have hc : ∀ j u, c[j]? = some u → w.cell? (ad.add (i.toNat * 1 + j)) = some u := hc0
  obtain ⟨A0, c0, rfl, l0, g0⟩ := hK
  exact ⟨ad, A0, c0, e, by have hq := hc 0 _ rfl; rwa [Nat.mul_one, Nat.add_zero] at hq, l0, g0⟩

def rd_L30 (xs : List (List S186)) (i : Int) : (List S186) := xs.getD i.toNat ([] : List S186)
theorem at_L30 {w : World} {A : Option Addr} {n : Nat} {xs : List (List S186)} (h : Kd.C (Kd.slice 186 k186) w A n xs) (i : Int) (h0 : 0 ≤ i) (h1 : i < n) : ∃ ad A0 c0, A = some ad ∧ w.cell? (ad.add i.toNat) = some (.slice A0 (rd_L30 xs i).length c0) ∧ (rd_L30 xs i).length ≤ c0 ∧ k186.C w A0 (rd_L30 xs i).length (rd_L30 xs i) := by
  obtain ⟨ad, c, e, _, hK, hc0⟩ := Kd.C_get h ([] : List S186) i h0 h1
  have hc : ∀ j u, c[j]? = some u → w.cell? (ad.add (i.toNat * 1 + j)) = some u := hc0
  obtain ⟨A0, c0, rfl, l0, g0⟩ := hK
  exact ⟨ad, A0, c0, e, by have hq := hc 0 _ rfl; rwa [Nat.mul_one, Nat.add_zero] at hq, l0, g0⟩

/-! #### struct type 50 -/
structure S50 where
  f0 : (List S180)
  f1 : (List S184)
  f2 : (List S186)
def z50 : S50 := ⟨([] : List S180), ([] : List S184), ([] : List S186)⟩
def k50 : Kd S50 := Kd.iso (Kd.pair (Kd.slice 180 k180) (Kd.pair (Kd.slice 184 k184) (Kd.slice 186 k186))) (fun x : S50 => (x.f0, x.f1, x.f2))
theorem k50_open {w : World} {x : S50} {cs : List Value} (h : k50.K w x cs) : ∃ A0 c0 A1 c1 A2 c2, cs = [.slice A0 x.f0.length c0, .slice A1 x.f1.length c1, .slice A2 x.f2.length c2] ∧ x.f0.length ≤ c0 ∧ k180.C w A0 x.f0.length x.f0 ∧ x.f1.length ≤ c1 ∧ k184.C w A1 x.f1.length x.f1 ∧ x.f2.length ≤ c2 ∧ k186.C w A2 x.f2.length x.f2 := by
  obtain ⟨_, _, rfl, ⟨A0, c0, rfl, l0, g0⟩, ⟨_, _, rfl, ⟨A1, c1, rfl, l1, g1⟩, ⟨A2, c2, rfl, l2, g2⟩⟩⟩ := h
  exact ⟨A0, c0, A1, c1, A2, c2, rfl, l0, g0, l1, g1, l2, g2⟩
theorem k50_openM {w : World} {base : Nat} {ok : Nat → Prop} {x : S50} {cs : List Value} (h : k50.M w base ok x cs) : ∃ v0 v1 v2, cs = [v0, v1, v2] ∧ k180.R 180 w base ok v0 x.f0 ∧ k184.R 184 w base ok v1 x.f1 ∧ k186.R 186 w base ok v2 x.f2 := by
  obtain ⟨_, _, rfl, ⟨v0, rfl, g0⟩, ⟨_, _, rfl, ⟨v1, rfl, g1⟩, ⟨v2, rfl, g2⟩⟩⟩ := h
  exact ⟨v0, v1, v2, rfl, g0, g1, g2⟩
theorem k50_mk (w : World) (x : S50) {A0 : Option Addr} {c0 : Nat} (l0 : x.f0.length ≤ c0) (g0 : k180.C w A0 x.f0.length x.f0) {A1 : Option Addr} {c1 : Nat} (l1 : x.f1.length ≤ c1) (g1 : k184.C w A1 x.f1.length x.f1) {A2 : Option Addr} {c2 : Nat} (l2 : x.f2.length ≤ c2) (g2 : k186.C w A2 x.f2.length x.f2) : k50.K w x [.slice A0 x.f0.length c0, .slice A1 x.f1.length c1, .slice A2 x.f2.length c2] := ⟨[.slice A0 x.f0.length c0], [.slice A1 x.f1.length c1, .slice A2 x.f2.length c2], rfl, ⟨A0, c0, rfl, l0, g0⟩, ⟨[.slice A1 x.f1.length c1], [.slice A2 x.f2.length c2], rfl, ⟨A1, c1, rfl, l1, g1⟩, ⟨A2, c2, rfl, l2, g2⟩⟩⟩
theorem k50_mkM (w : World) (base : Nat) (ok : Nat → Prop) (x : S50) {v0 : Value} (g0 : k180.R 180 w base ok v0 x.f0) {v1 : Value} (g1 : k184.R 184 w base ok v1 x.f1) {v2 : Value} (g2 : k186.R 186 w base ok v2 x.f2) : k50.M w base ok x [v0, v1, v2] := ⟨[v0], [v1, v2], rfl, ⟨v0, rfl, g0⟩, ⟨[v1], [v2], rfl, ⟨v1, rfl, g1⟩, ⟨v2, rfl, g2⟩⟩⟩
def rd_T50 (xs : List S50) (i : Int) : S50 := xs.getD i.toNat z50
theorem at_T50 {w : World} {A : Option Addr} {n : Nat} {xs : List S50} (h : Kd.C k50 w A n xs) (i : Int) (h0 : 0 ≤ i) (h1 : i < n) : ∃ ad A0 c0 A1 c1 A2 c2, A = some ad ∧ w.cell? (ad.add (i.toNat * 3)) = some (.slice A0 (rd_T50 xs i).f0.length c0) ∧ w.cell? ⟨(ad.add (i.toNat * 3)).block, (ad.add (i.toNat * 3)).off + 1, none⟩ = some (.slice A1 (rd_T50 xs i).f1.length c1) ∧ w.cell? ⟨(ad.add (i.toNat * 3)).block, (ad.add (i.toNat * 3)).off + 2, none⟩ = some (.slice A2 (rd_T50 xs i).f2.length c2) ∧ (rd_T50 xs i).f0.length ≤ c0 ∧ k180.C w A0 (rd_T50 xs i).f0.length (rd_T50 xs i).f0 ∧ (rd_T50 xs i).f1.length ≤ c1 ∧ k184.C w A1 (rd_T50 xs i).f1.length (rd_T50 xs i).f1 ∧ (rd_T50 xs i).f2.length ≤ c2 ∧ k186.C w A2 (rd_T50 xs i).f2.length (rd_T50 xs i).f2 := by
  obtain ⟨ad, c, e, _, hK, hc0⟩ := Kd.C_get h z50 i h0 h1
  have hc : ∀ j u, c[j]? = some u → w.cell? (ad.add (i.toNat * 3 + j)) = some u := hc0
  obtain ⟨A0, c0, A1, c1, A2, c2, rfl, l0, g0, l1, g1, l2, g2⟩ := k50_open hK
  exact ⟨ad, A0, c0, A1, c1, A2, c2, e, hc 0 _ rfl, by rw [← add_field _ _ 1 (by omega)]; exact hc 1 _ rfl, by rw [← add_field _ _ 2 (by omega)]; exact hc 2 _ rfl, l0, g0, l1, g1, l2, g2⟩

/-! #### struct type 52 -/
structure S52 where
  f0 : Int
  f1 : (List Int)
  f2 : Bool
  f3 : Bool
  f4 : Int
def z52 : S52 := ⟨(0 : Int), ([] : List Int), false, false, (0 : Int)⟩
def k52 : Kd S52 := Kd.iso (Kd.pair (Kd.int .i64) (Kd.pair (Kd.slice 3 (Kd.int .i64)) (Kd.pair Kd.bool (Kd.pair Kd.bool (Kd.int .i64))))) (fun x : S52 => (x.f0, x.f1, x.f2, x.f3, x.f4))
theorem k52_open {w : World} {x : S52} {cs : List Value} (h : k52.K w x cs) : ∃ A1 c1, cs = [.int .i64 x.f0, .slice A1 x.f1.length c1, .bool x.f2, .bool x.f3, .int .i64 x.f4] ∧ x.f1.length ≤ c1 ∧ (Kd.int .i64).C w A1 x.f1.length x.f1 := by
  obtain ⟨_, _, rfl, rfl, ⟨_, _, rfl, ⟨A1, c1, rfl, l1, g1⟩, ⟨_, _, rfl, rfl, ⟨_, _, rfl, rfl, rfl⟩⟩⟩⟩ := h
  exact ⟨A1, c1, rfl, l1, g1⟩
theorem k52_openM {w : World} {base : Nat} {ok : Nat → Prop} {x : S52} {cs : List Value} (h : k52.M w base ok x cs) : ∃ v1, cs = [.int .i64 x.f0, v1, .bool x.f2, .bool x.f3, .int .i64 x.f4] ∧ (Kd.int .i64).R 3 w base ok v1 x.f1 := by
  obtain ⟨_, _, rfl, rfl, ⟨_, _, rfl, ⟨v1, rfl, g1⟩, ⟨_, _, rfl, rfl, ⟨_, _, rfl, rfl, rfl⟩⟩⟩⟩ := h
  exact ⟨v1, rfl, g1⟩
theorem k52_mk (w : World) (x : S52) {A1 : Option Addr} {c1 : Nat} (l1 : x.f1.length ≤ c1) (g1 : (Kd.int .i64).C w A1 x.f1.length x.f1) : k52.K w x [.int .i64 x.f0, .slice A1 x.f1.length c1, .bool x.f2, .bool x.f3, .int .i64 x.f4] := ⟨[.int .i64 x.f0], [.slice A1 x.f1.length c1, .bool x.f2, .bool x.f3, .int .i64 x.f4], rfl, rfl, ⟨[.slice A1 x.f1.length c1], [.bool x.f2, .bool x.f3, .int .i64 x.f4], rfl, ⟨A1, c1, rfl, l1, g1⟩, ⟨[.bool x.f2], [.bool x.f3, .int .i64 x.f4], rfl, rfl, ⟨[.bool x.f3], [.int .i64 x.f4], rfl, rfl, rfl⟩⟩⟩⟩
theorem k52_mkM (w : World) (base : Nat) (ok : Nat → Prop) (x : S52) {v1 : Value} (g1 : (Kd.int .i64).R 3 w base ok v1 x.f1) : k52.M w base ok x [.int .i64 x.f0, v1, .bool x.f2, .bool x.f3, .int .i64 x.f4] := ⟨[.int .i64 x.f0], [v1, .bool x.f2, .bool x.f3, .int .i64 x.f4], rfl, rfl, ⟨[v1], [.bool x.f2, .bool x.f3, .int .i64 x.f4], rfl, ⟨v1, rfl, g1⟩, ⟨[.bool x.f2], [.bool x.f3, .int .i64 x.f4], rfl, rfl, ⟨[.bool x.f3], [.int .i64 x.f4], rfl, rfl, rfl⟩⟩⟩⟩
def rd_T52 (xs : List S52) (i : Int) : S52 := xs.getD i.toNat z52
theorem at_T52 {w : World} {A : Option Addr} {n : Nat} {xs : List S52} (h : Kd.C k52 w A n xs) (i : Int) (h0 : 0 ≤ i) (h1 : i < n) : ∃ ad A1 c1, A = some ad ∧ w.cell? (ad.add (i.toNat * 5)) = some (.int .i64 (rd_T52 xs i).f0) ∧ w.cell? ⟨(ad.add (i.toNat * 5)).block, (ad.add (i.toNat * 5)).off + 1, none⟩ = some (.slice A1 (rd_T52 xs i).f1.length c1) ∧ w.cell? ⟨(ad.add (i.toNat * 5)).block, (ad.add (i.toNat * 5)).off + 2, none⟩ = some (.bool (rd_T52 xs i).f2) ∧ w.cell? ⟨(ad.add (i.toNat * 5)).block, (ad.add (i.toNat * 5)).off + 3, none⟩ = some (.bool (rd_T52 xs i).f3) ∧ w.cell? ⟨(ad.add (i.toNat * 5)).block, (ad.add (i.toNat * 5)).off + 4, none⟩ = some (.int .i64 (rd_T52 xs i).f4) ∧ (rd_T52 xs i).f1.length ≤ c1 ∧ (Kd.int .i64).C w A1 (rd_T52 xs i).f1.length (rd_T52 xs i).f1 := by
  obtain ⟨ad, c, e, _, hK, hc0⟩ := Kd.C_get h z52 i h0 h1
  have hc : ∀ j u, c[j]? = some u → w.cell? (ad.add (i.toNat * 5 + j)) = some u := hc0
  obtain ⟨A1, c1, rfl, l1, g1⟩ := k52_open hK
  exact ⟨ad, A1, c1, e, hc 0 _ rfl, by rw [← add_field _ _ 1 (by omega)]; exact hc 1 _ rfl, by rw [← add_field _ _ 2 (by omega)]; exact hc 2 _ rfl, by rw [← add_field _ _ 3 (by omega)]; exact hc 3 _ rfl, by rw [← add_field _ _ 4 (by omega)]; exact hc 4 _ rfl, l1, g1⟩

/-! #### struct type 54 -/
structure S54 where
  f0 : Int
  f1 : (List Int)
  f2 : S52
def z54 : S54 := ⟨(0 : Int), ([] : List Int), z52⟩
def k54 : Kd S54 := Kd.iso (Kd.pair (Kd.int .i64) (Kd.pair (Kd.slice 3 (Kd.int .i64)) k52)) (fun x : S54 => (x.f0, x.f1, x.f2))
theorem k54_open {w : World} {x : S54} {cs : List Value} (h : k54.K w x cs) : ∃ A1 c1 A3 c3, cs = [.int .i64 x.f0, .slice A1 x.f1.length c1, .int .i64 x.f2.f0, .slice A3 x.f2.f1.length c3, .bool x.f2.f2, .bool x.f2.f3, .int .i64 x.f2.f4] ∧ x.f1.length ≤ c1 ∧ (Kd.int .i64).C w A1 x.f1.length x.f1 ∧ x.f2.f1.length ≤ c3 ∧ (Kd.int .i64).C w A3 x.f2.f1.length x.f2.f1 := by
  obtain ⟨_, _, rfl, rfl, ⟨_, _, rfl, ⟨A1, c1, rfl, l1, g1⟩, s2⟩⟩ := h
  obtain ⟨A3, c3, rfl, l3, g3⟩ := k52_open s2
  exact ⟨A1, c1, A3, c3, rfl, l1, g1, l3, g3⟩
theorem k54_openM {w : World} {base : Nat} {ok : Nat → Prop} {x : S54} {cs : List Value} (h : k54.M w base ok x cs) : ∃ v1 v3, cs = [.int .i64 x.f0, v1, .int .i64 x.f2.f0, v3, .bool x.f2.f2, .bool x.f2.f3, .int .i64 x.f2.f4] ∧ (Kd.int .i64).R 3 w base ok v1 x.f1 ∧ (Kd.int .i64).R 3 w base ok v3 x.f2.f1 := by
  obtain ⟨_, _, rfl, rfl, ⟨_, _, rfl, ⟨v1, rfl, g1⟩, s2⟩⟩ := h
  obtain ⟨v3, rfl, g3⟩ := k52_openM s2
  exact ⟨v1, v3, rfl, g1, g3⟩
theorem k54_mk (w : World) (x : S54) {A1 : Option Addr} {c1 : Nat} (l1 : x.f1.length ≤ c1) (g1 : (Kd.int .i64).C w A1 x.f1.length x.f1) {A3 : Option Addr} {c3 : Nat} (l3 : x.f2.f1.length ≤ c3) (g3 : (Kd.int .i64).C w A3 x.f2.f1.length x.f2.f1) : k54.K w x [.int .i64 x.f0, .slice A1 x.f1.length c1, .int .i64 x.f2.f0, .slice A3 x.f2.f1.length c3, .bool x.f2.f2, .bool x.f2.f3, .int .i64 x.f2.f4] := ⟨[.int .i64 x.f0], [.slice A1 x.f1.length c1, .int .i64 x.f2.f0, .slice A3 x.f2.f1.length c3, .bool x.f2.f2, .bool x.f2.f3, .int .i64 x.f2.f4], rfl, rfl, ⟨[.slice A1 x.f1.length c1], [.int .i64 x.f2.f0, .slice A3 x.f2.f1.length c3, .bool x.f2.f2, .bool x.f2.f3, .int .i64 x.f2.f4], rfl, ⟨A1, c1, rfl, l1, g1⟩, (k52_mk w x.f2 l3 g3)⟩⟩
theorem k54_mkM (w : World) (base : Nat) (ok : Nat → Prop) (x : S54) {v1 : Value} (g1 : (Kd.int .i64).R 3 w base ok v1 x.f1) {v3 : Value} (g3 : (Kd.int .i64).R 3 w base ok v3 x.f2.f1) : k54.M w base ok x [.int .i64 x.f0, v1, .int .i64 x.f2.f0, v3, .bool x.f2.f2, .bool x.f2.f3, .int .i64 x.f2.f4] := ⟨[.int .i64 x.f0], [v1, .int .i64 x.f2.f0, v3, .bool x.f2.f2, .bool x.f2.f3, .int .i64 x.f2.f4], rfl, rfl, ⟨[v1], [.int .i64 x.f2.f0, v3, .bool x.f2.f2, .bool x.f2.f3, .int .i64 x.f2.f4], rfl, ⟨v1, rfl, g1⟩, (k52_mkM w base ok x.f2 g3)⟩⟩
def rd_T54 (xs : List S54) (i : Int) : S54 := xs.getD i.toNat z54
theorem at_T54 {w : World} {A : Option Addr} {n : Nat} {xs : List S54} (h : Kd.C k54 w A n xs) (i : Int) (h0 : 0 ≤ i) (h1 : i < n) : ∃ ad A1 c1 A3 c3, A = some ad ∧ w.cell? (ad.add (i.toNat * 7)) = some (.int .i64 (rd_T54 xs i).f0) ∧ w.cell? ⟨(ad.add (i.toNat * 7)).block, (ad.add (i.toNat * 7)).off + 1, none⟩ = some (.slice A1 (rd_T54 xs i).f1.length c1) ∧ w.cell? ⟨(ad.add (i.toNat * 7)).block, (ad.add (i.toNat * 7)).off + 2, none⟩ = some (.int .i64 (rd_T54 xs i).f2.f0) ∧ w.cell? ⟨(ad.add (i.toNat * 7)).block, (ad.add (i.toNat * 7)).off + 3, none⟩ = some (.slice A3 (rd_T54 xs i).f2.f1.length c3) ∧ w.cell? ⟨(ad.add (i.toNat * 7)).block, (ad.add (i.toNat * 7)).off + 4, none⟩ = some (.bool (rd_T54 xs i).f2.f2) ∧ w.cell? ⟨(ad.add (i.toNat * 7)).block, (ad.add (i.toNat * 7)).off + 5, none⟩ = some (.bool (rd_T54 xs i).f2.f3) ∧ w.cell? ⟨(ad.add (i.toNat * 7)).block, (ad.add (i.toNat * 7)).off + 6, none⟩ = some (.int .i64 (rd_T54 xs i).f2.f4) ∧ (rd_T54 xs i).f1.length ≤ c1 ∧ (Kd.int .i64).C w A1 (rd_T54 xs i).f1.length (rd_T54 xs i).f1 ∧ (rd_T54 xs i).f2.f1.length ≤ c3 ∧ (Kd.int .i64).C w A3 (rd_T54 xs i).f2.f1.length (rd_T54 xs i).f2.f1 := by
  obtain ⟨ad, c, e, _, hK, hc0⟩ := Kd.C_get h z54 i h0 h1
  have hc : ∀ j u, c[j]? = some u → w.cell? (ad.add (i.toNat * 7 + j)) = some u := hc0
  obtain ⟨A1, c1, A3, c3, rfl, l1, g1, l3, g3⟩ := k54_open hK
  exact ⟨ad, A1, c1, A3, c3, e, hc 0 _ rfl, by rw [← add_field _ _ 1 (by omega)]; exact hc 1 _ rfl, by rw [← add_field _ _ 2 (by omega)]; exact hc 2 _ rfl, by rw [← add_field _ _ 3 (by omega)]; exact hc 3 _ rfl, by rw [← add_field _ _ 4 (by omega)]; exact hc 4 _ rfl, by rw [← add_field _ _ 5 (by omega)]; exact hc 5 _ rfl, by rw [← add_field _ _ 6 (by omega)]; exact hc 6 _ rfl, l1, g1, l3, g3⟩

/-! #### struct type 192 -/
structure S192 where
  f0 : Int
  f1 : ByteArray
  f2 : ByteArray
  f3 : Int
  f4 : Int
  f5 : ByteArray
  f6 : Bool
  f7 : Int
  f8 : Int
  f9 : (List Int)
  f10 : (List ByteArray)
  f11 : (List ByteArray)
  f12 : ByteArray
def z192 : S192 := ⟨(0 : Int), (⟨#[]⟩ : ByteArray), (⟨#[]⟩ : ByteArray), (0 : Int), (0 : Int), (⟨#[]⟩ : ByteArray), false, (0 : Int), (0 : Int), ([] : List Int), ([] : List ByteArray), ([] : List ByteArray), (⟨#[]⟩ : ByteArray)⟩
def k192 : Kd S192 := Kd.iso (Kd.pair (Kd.int .i64) (Kd.pair Kd.string (Kd.pair Kd.string (Kd.pair (Kd.int .i64) (Kd.pair (Kd.int .i64) (Kd.pair Kd.string (Kd.pair Kd.bool (Kd.pair (Kd.int .i64) (Kd.pair (Kd.int .i64) (Kd.pair (Kd.slice 3 (Kd.int .i64)) (Kd.pair (Kd.slice 9 Kd.string) (Kd.pair (Kd.slice 9 Kd.string) Kd.string)))))))))))) (fun x : S192 => (x.f0, x.f1, x.f2, x.f3, x.f4, x.f5, x.f6, x.f7, x.f8, x.f9, x.f10, x.f11, x.f12))
theorem k192_open {w : World} {x : S192} {cs : List Value} (h : k192.K w x cs) : ∃ A9 c9 A10 c10 A11 c11, cs = [.int .i64 x.f0, .string x.f1, .string x.f2, .int .i64 x.f3, .int .i64 x.f4, .string x.f5, .bool x.f6, .int .i64 x.f7, .int .i64 x.f8, .slice A9 x.f9.length c9, .slice A10 x.f10.length c10, .slice A11 x.f11.length c11, .string x.f12] ∧ x.f9.length ≤ c9 ∧ (Kd.int .i64).C w A9 x.f9.length x.f9 ∧ x.f10.length ≤ c10 ∧ Kd.string.C w A10 x.f10.length x.f10 ∧ x.f11.length ≤ c11 ∧ Kd.string.C w A11 x.f11.length x.f11 := by
  obtain ⟨_, _, rfl, rfl, ⟨_, _, rfl, rfl, ⟨_, _, rfl, rfl, ⟨_, _, rfl, rfl, ⟨_, _, rfl, rfl, ⟨_, _, rfl, rfl, ⟨_, _, rfl, rfl, ⟨_, _, rfl, rfl, ⟨_, _, rfl, rfl, ⟨_, _, rfl, ⟨A9, c9, rfl, l9, g9⟩, ⟨_, _, rfl, ⟨A10, c10, rfl, l10, g10⟩, ⟨_, _, rfl, ⟨A11, c11, rfl, l11, g11⟩, rfl⟩⟩⟩⟩⟩⟩⟩⟩⟩⟩⟩⟩ := h
  exact ⟨A9, c9, A10, c10, A11, c11, rfl, l9, g9, l10, g10, l11, g11⟩
theorem k192_openM {w : World} {base : Nat} {ok : Nat → Prop} {x : S192} {cs : List Value} (h : k192.M w base ok x cs) : ∃ v9 v10 v11, cs = [.int .i64 x.f0, .string x.f1, .string x.f2, .int .i64 x.f3, .int .i64 x.f4, .string x.f5, .bool x.f6, .int .i64 x.f7, .int .i64 x.f8, v9, v10, v11, .string x.f12] ∧ (Kd.int .i64).R 3 w base ok v9 x.f9 ∧ Kd.string.R 9 w base ok v10 x.f10 ∧ Kd.string.R 9 w base ok v11 x.f11 := by
  obtain ⟨_, _, rfl, rfl, ⟨_, _, rfl, rfl, ⟨_, _, rfl, rfl, ⟨_, _, rfl, rfl, ⟨_, _, rfl, rfl, ⟨_, _, rfl, rfl, ⟨_, _, rfl, rfl, ⟨_, _, rfl, rfl, ⟨_, _, rfl, rfl, ⟨_, _, rfl, ⟨v9, rfl, g9⟩, ⟨_, _, rfl, ⟨v10, rfl, g10⟩, ⟨_, _, rfl, ⟨v11, rfl, g11⟩, rfl⟩⟩⟩⟩⟩⟩⟩⟩⟩⟩⟩⟩ := h
  exact ⟨v9, v10, v11, rfl, g9, g10, g11⟩
theorem k192_mk (w : World) (x : S192) {A9 : Option Addr} {c9 : Nat} (l9 : x.f9.length ≤ c9) (g9 : (Kd.int .i64).C w A9 x.f9.length x.f9) {A10 : Option Addr} {c10 : Nat} (l10 : x.f10.length ≤ c10) (g10 : Kd.string.C w A10 x.f10.length x.f10) {A11 : Option Addr} {c11 : Nat} (l11 : x.f11.length ≤ c11) (g11 : Kd.string.C w A11 x.f11.length x.f11) : k192.K w x [.int .i64 x.f0, .string x.f1, .string x.f2, .int .i64 x.f3, .int .i64 x.f4, .string x.f5, .bool x.f6, .int .i64 x.f7, .int .i64 x.f8, .slice A9 x.f9.length c9, .slice A10 x.f10.length c10, .slice A11 x.f11.length c11, .string x.f12] := ⟨[.int .i64 x.f0], [.string x.f1, .string x.f2, .int .i64 x.f3, .int .i64 x.f4, .string x.f5, .bool x.f6, .int .i64 x.f7, .int .i64 x.f8, .slice A9 x.f9.length c9, .slice A10 x.f10.length c10, .slice A11 x.f11.length c11, .string x.f12], rfl, rfl, ⟨[.string x.f1], [.string x.f2, .int .i64 x.f3, .int .i64 x.f4, .string x.f5, .bool x.f6, .int .i64 x.f7, .int .i64 x.f8, .slice A9 x.f9.length c9, .slice A10 x.f10.length c10, .slice A11 x.f11.length c11, .string x.f12], rfl, rfl, ⟨[.string x.f2], [.int .i64 x.f3, .int .i64 x.f4, .string x.f5, .bool x.f6, .int .i64 x.f7, .int .i64 x.f8, .slice A9 x.f9.length c9, .slice A10 x.f10.length c10, .slice A11 x.f11.length c11, .string x.f12], rfl, rfl, ⟨[.int .i64 x.f3], [.int .i64 x.f4, .string x.f5, .bool x.f6, .int .i64 x.f7, .int .i64 x.f8, .slice A9 x.f9.length c9, .slice A10 x.f10.length c10, .slice A11 x.f11.length c11, .string x.f12], rfl, rfl, ⟨[.int .i64 x.f4], [.string x.f5, .bool x.f6, .int .i64 x.f7, .int .i64 x.f8, .slice A9 x.f9.length c9, .slice A10 x.f10.length c10, .slice A11 x.f11.length c11, .string x.f12], rfl, rfl, ⟨[.string x.f5], [.bool x.f6, .int .i64 x.f7, .int .i64 x.f8, .slice A9 x.f9.length c9, .slice A10 x.f10.length c10, .slice A11 x.f11.length c11, .string x.f12], rfl, rfl, ⟨[.bool x.f6], [.int .i64 x.f7, .int .i64 x.f8, .slice A9 x.f9.length c9, .slice A10 x.f10.length c10, .slice A11 x.f11.length c11, .string x.f12], rfl, rfl, ⟨[.int .i64 x.f7], [.int .i64 x.f8, .slice A9 x.f9.length c9, .slice A10 x.f10.length c10, .slice A11 x.f11.length c11, .string x.f12], rfl, rfl, ⟨[.int .i64 x.f8], [.slice A9 x.f9.length c9, .slice A10 x.f10.length c10, .slice A11 x.f11.length c11, .string x.f12], rfl, rfl, ⟨[.slice A9 x.f9.length c9], [.slice A10 x.f10.length c10, .slice A11 x.f11.length c11, .string x.f12], rfl, ⟨A9, c9, rfl, l9, g9⟩, ⟨[.slice A10 x.f10.length c10], [.slice A11 x.f11.length c11, .string x.f12], rfl, ⟨A10, c10, rfl, l10, g10⟩, ⟨[.slice A11 x.f11.length c11], [.string x.f12], rfl, ⟨A11, c11, rfl, l11, g11⟩, rfl⟩⟩⟩⟩⟩⟩⟩⟩⟩⟩⟩⟩
theorem k192_mkM (w : World) (base : Nat) (ok : Nat → Prop) (x : S192) {v9 : Value} (g9 : (Kd.int .i64).R 3 w base ok v9 x.f9) {v10 : Value} (g10 : Kd.string.R 9 w base ok v10 x.f10) {v11 : Value} (g11 : Kd.string.R 9 w base ok v11 x.f11) : k192.M w base ok x [.int .i64 x.f0, .string x.f1, .string x.f2, .int .i64 x.f3, .int .i64 x.f4, .string x.f5, .bool x.f6, .int .i64 x.f7, .int .i64 x.f8, v9, v10, v11, .string x.f12] := ⟨[.int .i64 x.f0], [.string x.f1, .string x.f2, .int .i64 x.f3, .int .i64 x.f4, .string x.f5, .bool x.f6, .int .i64 x.f7, .int .i64 x.f8, v9, v10, v11, .string x.f12], rfl, rfl, ⟨[.string x.f1], [.string x.f2, .int .i64 x.f3, .int .i64 x.f4, .string x.f5, .bool x.f6, .int .i64 x.f7, .int .i64 x.f8, v9, v10, v11, .string x.f12], rfl, rfl, ⟨[.string x.f2], [.int .i64 x.f3, .int .i64 x.f4, .string x.f5, .bool x.f6, .int .i64 x.f7, .int .i64 x.f8, v9, v10, v11, .string x.f12], rfl, rfl, ⟨[.int .i64 x.f3], [.int .i64 x.f4, .string x.f5, .bool x.f6, .int .i64 x.f7, .int .i64 x.f8, v9, v10, v11, .string x.f12], rfl, rfl, ⟨[.int .i64 x.f4], [.string x.f5, .bool x.f6, .int .i64 x.f7, .int .i64 x.f8, v9, v10, v11, .string x.f12], rfl, rfl, ⟨[.string x.f5], [.bool x.f6, .int .i64 x.f7, .int .i64 x.f8, v9, v10, v11, .string x.f12], rfl, rfl, ⟨[.bool x.f6], [.int .i64 x.f7, .int .i64 x.f8, v9, v10, v11, .string x.f12], rfl, rfl, ⟨[.int .i64 x.f7], [.int .i64 x.f8, v9, v10, v11, .string x.f12], rfl, rfl, ⟨[.int .i64 x.f8], [v9, v10, v11, .string x.f12], rfl, rfl, ⟨[v9], [v10, v11, .string x.f12], rfl, ⟨v9, rfl, g9⟩, ⟨[v10], [v11, .string x.f12], rfl, ⟨v10, rfl, g10⟩, ⟨[v11], [.string x.f12], rfl, ⟨v11, rfl, g11⟩, rfl⟩⟩⟩⟩⟩⟩⟩⟩⟩⟩⟩⟩
def rd_T192 (xs : List S192) (i : Int) : S192 := xs.getD i.toNat z192
theorem at_T192 {w : World} {A : Option Addr} {n : Nat} {xs : List S192} (h : Kd.C k192 w A n xs) (i : Int) (h0 : 0 ≤ i) (h1 : i < n) : ∃ ad A9 c9 A10 c10 A11 c11, A = some ad ∧ w.cell? (ad.add (i.toNat * 13)) = some (.int .i64 (rd_T192 xs i).f0) ∧ w.cell? ⟨(ad.add (i.toNat * 13)).block, (ad.add (i.toNat * 13)).off + 1, none⟩ = some (.string (rd_T192 xs i).f1) ∧ w.cell? ⟨(ad.add (i.toNat * 13)).block, (ad.add (i.toNat * 13)).off + 2, none⟩ = some (.string (rd_T192 xs i).f2) ∧ w.cell? ⟨(ad.add (i.toNat * 13)).block, (ad.add (i.toNat * 13)).off + 3, none⟩ = some (.int .i64 (rd_T192 xs i).f3) ∧ w.cell? ⟨(ad.add (i.toNat * 13)).block, (ad.add (i.toNat * 13)).off + 4, none⟩ = some (.int .i64 (rd_T192 xs i).f4) ∧ w.cell? ⟨(ad.add (i.toNat * 13)).block, (ad.add (i.toNat * 13)).off + 5, none⟩ = some (.string (rd_T192 xs i).f5) ∧ w.cell? ⟨(ad.add (i.toNat * 13)).block, (ad.add (i.toNat * 13)).off + 6, none⟩ = some (.bool (rd_T192 xs i).f6) ∧ w.cell? ⟨(ad.add (i.toNat * 13)).block, (ad.add (i.toNat * 13)).off + 7, none⟩ = some (.int .i64 (rd_T192 xs i).f7) ∧ w.cell? ⟨(ad.add (i.toNat * 13)).block, (ad.add (i.toNat * 13)).off + 8, none⟩ = some (.int .i64 (rd_T192 xs i).f8) ∧ w.cell? ⟨(ad.add (i.toNat * 13)).block, (ad.add (i.toNat * 13)).off + 9, none⟩ = some (.slice A9 (rd_T192 xs i).f9.length c9) ∧ w.cell? ⟨(ad.add (i.toNat * 13)).block, (ad.add (i.toNat * 13)).off + 10, none⟩ = some (.slice A10 (rd_T192 xs i).f10.length c10) ∧ w.cell? ⟨(ad.add (i.toNat * 13)).block, (ad.add (i.toNat * 13)).off + 11, none⟩ = some (.slice A11 (rd_T192 xs i).f11.length c11) ∧ w.cell? ⟨(ad.add (i.toNat * 13)).block, (ad.add (i.toNat * 13)).off + 12, none⟩ = some (.string (rd_T192 xs i).f12) ∧ (rd_T192 xs i).f9.length ≤ c9 ∧ (Kd.int .i64).C w A9 (rd_T192 xs i).f9.length (rd_T192 xs i).f9 ∧ (rd_T192 xs i).f10.length ≤ c10 ∧ Kd.string.C w A10 (rd_T192 xs i).f10.length (rd_T192 xs i).f10 ∧ (rd_T192 xs i).f11.length ≤ c11 ∧ Kd.string.C w A11 (rd_T192 xs i).f11.length (rd_T192 xs i).f11 := by
  obtain ⟨ad, c, e, _, hK, hc0⟩ := Kd.C_get h z192 i h0 h1
  have hc : ∀ j u, c[j]? = some u → w.cell? (ad.add (i.toNat * 13 + j)) = some u := hc0
  obtain ⟨A9, c9, A10, c10, A11, c11, rfl, l9, g9, l10, g10, l11, g11⟩ := k192_open hK
  exact ⟨ad, A9, c9, A10, c10, A11, c11, e, hc 0 _ rfl, by rw [← add_field _ _ 1 (by omega)]; exact hc 1 _ rfl, by rw [← add_field _ _ 2 (by omega)]; exact hc 2 _ rfl, by rw [← add_field _ _ 3 (by omega)]; exact hc 3 _ rfl, by rw [← add_field _ _ 4 (by omega)]; exact hc 4 _ rfl, by rw [← add_field _ _ 5 (by omega)]; exact hc 5 _ rfl, by rw [← add_field _ _ 6 (by omega)]; exact hc 6 _ rfl, by rw [← add_field _ _ 7 (by omega)]; exact hc 7 _ rfl, by rw [← add_field _ _ 8 (by omega)]; exact hc 8 _ rfl, by rw [← add_field _ _ 9 (by omega)]; exact hc 9 _ rfl, by rw [← add_field _ _ 10 (by omega)]; exact hc 10 _ rfl, by rw [← add_field _ _ 11 (by omega)]; exact hc 11 _ rfl, by rw [← add_field _ _ 12 (by omega)]; exact hc 12 _ rfl, l9, g9, l10, g10, l11, g11⟩

/-! #### struct type 230 -/
structure S230 where
  f0 : Int
  f1 : Int
def z230 : S230 := ⟨(0 : Int), (0 : Int)⟩
def k230 : Kd S230 := Kd.iso (Kd.pair (Kd.int .i64) (Kd.int .i64)) (fun x : S230 => (x.f0, x.f1))
theorem k230_open {w : World} {x : S230} {cs : List Value} (h : k230.K w x cs) : cs = [.int .i64 x.f0, .int .i64 x.f1] := by
  obtain ⟨_, _, rfl, rfl, rfl⟩ := h
  exact rfl
theorem k230_openM {w : World} {base : Nat} {ok : Nat → Prop} {x : S230} {cs : List Value} (h : k230.M w base ok x cs) : cs = [.int .i64 x.f0, .int .i64 x.f1] := by
  obtain ⟨_, _, rfl, rfl, rfl⟩ := h
  exact rfl
theorem k230_mk (w : World) (x : S230)  : k230.K w x [.int .i64 x.f0, .int .i64 x.f1] := ⟨[.int .i64 x.f0], [.int .i64 x.f1], rfl, rfl, rfl⟩
theorem k230_mkM (w : World) (base : Nat) (ok : Nat → Prop) (x : S230)  : k230.M w base ok x [.int .i64 x.f0, .int .i64 x.f1] := ⟨[.int .i64 x.f0], [.int .i64 x.f1], rfl, rfl, rfl⟩
def rd_T230 (xs : List S230) (i : Int) : S230 := xs.getD i.toNat z230
theorem at_T230 {w : World} {A : Option Addr} {n : Nat} {xs : List S230} (h : Kd.C k230 w A n xs) (i : Int) (h0 : 0 ≤ i) (h1 : i < n) : ∃ ad , A = some ad ∧ w.cell? (ad.add (i.toNat * 2)) = some (.int .i64 (rd_T230 xs i).f0) ∧ w.cell? ⟨(ad.add (i.toNat * 2)).block, (ad.add (i.toNat * 2)).off + 1, none⟩ = some (.int .i64 (rd_T230 xs i).f1) := by
  obtain ⟨ad, c, e, _, hK, hc0⟩ := Kd.C_get h z230 i h0 h1
  have hc : ∀ j u, c[j]? = some u → w.cell? (ad.add (i.toNat * 2 + j)) = some u := hc0
  obtain rfl := k230_open hK
  exact ⟨ad, e, hc 0 _ rfl, by rw [← add_field _ _ 1 (by omega)]; exact hc 1 _ rfl⟩

def rd_L36 (xs : List (List S230)) (i : Int) : (List S230) := xs.getD i.toNat ([] : List S230)
theorem at_L36 {w : World} {A : Option Addr} {n : Nat} {xs : List (List S230)} (h : Kd.C (Kd.slice 230 k230) w A n xs) (i : Int) (h0 : 0 ≤ i) (h1 : i < n) : ∃ ad A0 c0, A = some ad ∧ w.cell? (ad.add i.toNat) = some (.slice A0 (rd_L36 xs i).length c0) ∧ (rd_L36 xs i).length ≤ c0 ∧ k230.C w A0 (rd_L36 xs i).length (rd_L36 xs i) := by
  obtain ⟨ad, c, e, _, hK, hc0⟩ := Kd.C_get h ([] : List S230) i h0 h1
  have hc : ∀ j u, c[j]? = some u → w.cell? (ad.add (i.toNat * 1 + j)) = some u := hc0
  obtain ⟨A0, c0, rfl, l0, g0⟩ := hK
  exact ⟨ad, A0, c0, e, by have hq := hc 0 _ rfl; rwa [Nat.mul_one, Nat.add_zero] at hq, l0, g0⟩

/-! #### struct type 190 -/
structure S190 where
  f0 : ByteArray
  f1 : Int
  f2 : Int
  f3 : Int
  f4 : Int
  f5 : (List S230)
  f6 : ByteArray
def z190 : S190 := ⟨(⟨#[]⟩ : ByteArray), (0 : Int), (0 : Int), (0 : Int), (0 : Int), ([] : List S230), (⟨#[]⟩ : ByteArray)⟩
def k190 : Kd S190 := Kd.iso (Kd.pair Kd.string (Kd.pair (Kd.int .i64) (Kd.pair (Kd.int .i64) (Kd.pair (Kd.int .i64) (Kd.pair (Kd.int .i64) (Kd.pair (Kd.slice 230 k230) Kd.string)))))) (fun x : S190 => (x.f0, x.f1, x.f2, x.f3, x.f4, x.f5, x.f6))
theorem k190_open {w : World} {x : S190} {cs : List Value} (h : k190.K w x cs) : ∃ A5 c5, cs = [.string x.f0, .int .i64 x.f1, .int .i64 x.f2, .int .i64 x.f3, .int .i64 x.f4, .slice A5 x.f5.length c5, .string x.f6] ∧ x.f5.length ≤ c5 ∧ k230.C w A5 x.f5.length x.f5 := by
  obtain ⟨_, _, rfl, rfl, ⟨_, _, rfl, rfl, ⟨_, _, rfl, rfl, ⟨_, _, rfl, rfl, ⟨_, _, rfl, rfl, ⟨_, _, rfl, ⟨A5, c5, rfl, l5, g5⟩, rfl⟩⟩⟩⟩⟩⟩ := h
  exact ⟨A5, c5, rfl, l5, g5⟩
theorem k190_openM {w : World} {base : Nat} {ok : Nat → Prop} {x : S190} {cs : List Value} (h : k190.M w base ok x cs) : ∃ v5, cs = [.string x.f0, .int .i64 x.f1, .int .i64 x.f2, .int .i64 x.f3, .int .i64 x.f4, v5, .string x.f6] ∧ k230.R 230 w base ok v5 x.f5 := by
  obtain ⟨_, _, rfl, rfl, ⟨_, _, rfl, rfl, ⟨_, _, rfl, rfl, ⟨_, _, rfl, rfl, ⟨_, _, rfl, rfl, ⟨_, _, rfl, ⟨v5, rfl, g5⟩, rfl⟩⟩⟩⟩⟩⟩ := h
  exact ⟨v5, rfl, g5⟩
theorem k190_mk (w : World) (x : S190) {A5 : Option Addr} {c5 : Nat} (l5 : x.f5.length ≤ c5) (g5 : k230.C w A5 x.f5.length x.f5) : k190.K w x [.string x.f0, .int .i64 x.f1, .int .i64 x.f2, .int .i64 x.f3, .int .i64 x.f4, .slice A5 x.f5.length c5, .string x.f6] := ⟨[.string x.f0], [.int .i64 x.f1, .int .i64 x.f2, .int .i64 x.f3, .int .i64 x.f4, .slice A5 x.f5.length c5, .string x.f6], rfl, rfl, ⟨[.int .i64 x.f1], [.int .i64 x.f2, .int .i64 x.f3, .int .i64 x.f4, .slice A5 x.f5.length c5, .string x.f6], rfl, rfl, ⟨[.int .i64 x.f2], [.int .i64 x.f3, .int .i64 x.f4, .slice A5 x.f5.length c5, .string x.f6], rfl, rfl, ⟨[.int .i64 x.f3], [.int .i64 x.f4, .slice A5 x.f5.length c5, .string x.f6], rfl, rfl, ⟨[.int .i64 x.f4], [.slice A5 x.f5.length c5, .string x.f6], rfl, rfl, ⟨[.slice A5 x.f5.length c5], [.string x.f6], rfl, ⟨A5, c5, rfl, l5, g5⟩, rfl⟩⟩⟩⟩⟩⟩
theorem k190_mkM (w : World) (base : Nat) (ok : Nat → Prop) (x : S190) {v5 : Value} (g5 : k230.R 230 w base ok v5 x.f5) : k190.M w base ok x [.string x.f0, .int .i64 x.f1, .int .i64 x.f2, .int .i64 x.f3, .int .i64 x.f4, v5, .string x.f6] := ⟨[.string x.f0], [.int .i64 x.f1, .int .i64 x.f2, .int .i64 x.f3, .int .i64 x.f4, v5, .string x.f6], rfl, rfl, ⟨[.int .i64 x.f1], [.int .i64 x.f2, .int .i64 x.f3, .int .i64 x.f4, v5, .string x.f6], rfl, rfl, ⟨[.int .i64 x.f2], [.int .i64 x.f3, .int .i64 x.f4, v5, .string x.f6], rfl, rfl, ⟨[.int .i64 x.f3], [.int .i64 x.f4, v5, .string x.f6], rfl, rfl, ⟨[.int .i64 x.f4], [v5, .string x.f6], rfl, rfl, ⟨[v5], [.string x.f6], rfl, ⟨v5, rfl, g5⟩, rfl⟩⟩⟩⟩⟩⟩
def rd_T190 (xs : List S190) (i : Int) : S190 := xs.getD i.toNat z190
theorem at_T190 {w : World} {A : Option Addr} {n : Nat} {xs : List S190} (h : Kd.C k190 w A n xs) (i : Int) (h0 : 0 ≤ i) (h1 : i < n) : ∃ ad A5 c5, A = some ad ∧ w.cell? (ad.add (i.toNat * 7)) = some (.string (rd_T190 xs i).f0) ∧ w.cell? ⟨(ad.add (i.toNat * 7)).block, (ad.add (i.toNat * 7)).off + 1, none⟩ = some (.int .i64 (rd_T190 xs i).f1) ∧ w.cell? ⟨(ad.add (i.toNat * 7)).block, (ad.add (i.toNat * 7)).off + 2, none⟩ = some (.int .i64 (rd_T190 xs i).f2) ∧ w.cell? ⟨(ad.add (i.toNat * 7)).block, (ad.add (i.toNat * 7)).off + 3, none⟩ = some (.int .i64 (rd_T190 xs i).f3) ∧ w.cell? ⟨(ad.add (i.toNat * 7)).block, (ad.add (i.toNat * 7)).off + 4, none⟩ = some (.int .i64 (rd_T190 xs i).f4) ∧ w.cell? ⟨(ad.add (i.toNat * 7)).block, (ad.add (i.toNat * 7)).off + 5, none⟩ = some (.slice A5 (rd_T190 xs i).f5.length c5) ∧ w.cell? ⟨(ad.add (i.toNat * 7)).block, (ad.add (i.toNat * 7)).off + 6, none⟩ = some (.string (rd_T190 xs i).f6) ∧ (rd_T190 xs i).f5.length ≤ c5 ∧ k230.C w A5 (rd_T190 xs i).f5.length (rd_T190 xs i).f5 := by
  obtain ⟨ad, c, e, _, hK, hc0⟩ := Kd.C_get h z190 i h0 h1
  have hc : ∀ j u, c[j]? = some u → w.cell? (ad.add (i.toNat * 7 + j)) = some u := hc0
  obtain ⟨A5, c5, rfl, l5, g5⟩ := k190_open hK
  exact ⟨ad, A5, c5, e, hc 0 _ rfl, by rw [← add_field _ _ 1 (by omega)]; exact hc 1 _ rfl, by rw [← add_field _ _ 2 (by omega)]; exact hc 2 _ rfl, by rw [← add_field _ _ 3 (by omega)]; exact hc 3 _ rfl, by rw [← add_field _ _ 4 (by omega)]; exact hc 4 _ rfl, by rw [← add_field _ _ 5 (by omega)]; exact hc 5 _ rfl, by rw [← add_field _ _ 6 (by omega)]; exact hc 6 _ rfl, l5, g5⟩

/-! #### struct type 128 -/
structure S128 where
  f0 : ByteArray
  f1 : ByteArray
def z128 : S128 := ⟨(⟨#[]⟩ : ByteArray), (⟨#[]⟩ : ByteArray)⟩
def k128 : Kd S128 := Kd.iso (Kd.pair Kd.string Kd.string) (fun x : S128 => (x.f0, x.f1))
theorem k128_open {w : World} {x : S128} {cs : List Value} (h : k128.K w x cs) : cs = [.string x.f0, .string x.f1] := by
  obtain ⟨_, _, rfl, rfl, rfl⟩ := h
  exact rfl
theorem k128_openM {w : World} {base : Nat} {ok : Nat → Prop} {x : S128} {cs : List Value} (h : k128.M w base ok x cs) : cs = [.string x.f0, .string x.f1] := by
  obtain ⟨_, _, rfl, rfl, rfl⟩ := h
  exact rfl
theorem k128_mk (w : World) (x : S128)  : k128.K w x [.string x.f0, .string x.f1] := ⟨[.string x.f0], [.string x.f1], rfl, rfl, rfl⟩
theorem k128_mkM (w : World) (base : Nat) (ok : Nat → Prop) (x : S128)  : k128.M w base ok x [.string x.f0, .string x.f1] := ⟨[.string x.f0], [.string x.f1], rfl, rfl, rfl⟩
def rd_T128 (xs : List S128) (i : Int) : S128 := xs.getD i.toNat z128
theorem at_T128 {w : World} {A : Option Addr} {n : Nat} {xs : List S128} (h : Kd.C k128 w A n xs) (i : Int) (h0 : 0 ≤ i) (h1 : i < n) : ∃ ad , A = some ad ∧ w.cell? (ad.add (i.toNat * 2)) = some (.string (rd_T128 xs i).f0) ∧ w.cell? ⟨(ad.add (i.toNat * 2)).block, (ad.add (i.toNat * 2)).off + 1, none⟩ = some (.string (rd_T128 xs i).f1) := by
  obtain ⟨ad, c, e, _, hK, hc0⟩ := Kd.C_get h z128 i h0 h1
  have hc : ∀ j u, c[j]? = some u → w.cell? (ad.add (i.toNat * 2 + j)) = some u := hc0
  obtain rfl := k128_open hK
  exact ⟨ad, e, hc 0 _ rfl, by rw [← add_field _ _ 1 (by omega)]; exact hc 1 _ rfl⟩

def rd_L39 (xs : List (List S192)) (i : Int) : (List S192) := xs.getD i.toNat ([] : List S192)
theorem at_L39 {w : World} {A : Option Addr} {n : Nat} {xs : List (List S192)} (h : Kd.C (Kd.slice 192 k192) w A n xs) (i : Int) (h0 : 0 ≤ i) (h1 : i < n) : ∃ ad A0 c0, A = some ad ∧ w.cell? (ad.add i.toNat) = some (.slice A0 (rd_L39 xs i).length c0) ∧ (rd_L39 xs i).length ≤ c0 ∧ k192.C w A0 (rd_L39 xs i).length (rd_L39 xs i) := by
  obtain ⟨ad, c, e, _, hK, hc0⟩ := Kd.C_get h ([] : List S192) i h0 h1
  have hc : ∀ j u, c[j]? = some u → w.cell? (ad.add (i.toNat * 1 + j)) = some u := hc0
  obtain ⟨A0, c0, rfl, l0, g0⟩ := hK
  exact ⟨ad, A0, c0, e, by have hq := hc 0 _ rfl; rwa [Nat.mul_one, Nat.add_zero] at hq, l0, g0⟩

def rd_L40 (xs : List (List S190)) (i : Int) : (List S190) := xs.getD i.toNat ([] : List S190)
theorem at_L40 {w : World} {A : Option Addr} {n : Nat} {xs : List (List S190)} (h : Kd.C (Kd.slice 190 k190) w A n xs) (i : Int) (h0 : 0 ≤ i) (h1 : i < n) : ∃ ad A0 c0, A = some ad ∧ w.cell? (ad.add i.toNat) = some (.slice A0 (rd_L40 xs i).length c0) ∧ (rd_L40 xs i).length ≤ c0 ∧ k190.C w A0 (rd_L40 xs i).length (rd_L40 xs i) := by
  obtain ⟨ad, c, e, _, hK, hc0⟩ := Kd.C_get h ([] : List S190) i h0 h1
  have hc : ∀ j u, c[j]? = some u → w.cell? (ad.add (i.toNat * 1 + j)) = some u := hc0
  obtain ⟨A0, c0, rfl, l0, g0⟩ := hK
  exact ⟨ad, A0, c0, e, by have hq := hc 0 _ rfl; rwa [Nat.mul_one, Nat.add_zero] at hq, l0, g0⟩

def rd_L41 (xs : List (List S128)) (i : Int) : (List S128) := xs.getD i.toNat ([] : List S128)
theorem at_L41 {w : World} {A : Option Addr} {n : Nat} {xs : List (List S128)} (h : Kd.C (Kd.slice 128 k128) w A n xs) (i : Int) (h0 : 0 ≤ i) (h1 : i < n) : ∃ ad A0 c0, A = some ad ∧ w.cell? (ad.add i.toNat) = some (.slice A0 (rd_L41 xs i).length c0) ∧ (rd_L41 xs i).length ≤ c0 ∧ k128.C w A0 (rd_L41 xs i).length (rd_L41 xs i) := by
  obtain ⟨ad, c, e, _, hK, hc0⟩ := Kd.C_get h ([] : List S128) i h0 h1
  have hc : ∀ j u, c[j]? = some u → w.cell? (ad.add (i.toNat * 1 + j)) = some u := hc0
  obtain ⟨A0, c0, rfl, l0, g0⟩ := hK
  exact ⟨ad, A0, c0, e, by have hq := hc 0 _ rfl; rwa [Nat.mul_one, Nat.add_zero] at hq, l0, g0⟩

/-! #### struct type 61 -/
structure S61 where
  f0 : (List S192)
  f1 : (List S190)
  f2 : (List S128)
def z61 : S61 := ⟨([] : List S192), ([] : List S190), ([] : List S128)⟩
def k61 : Kd S61 := Kd.iso (Kd.pair (Kd.slice 192 k192) (Kd.pair (Kd.slice 190 k190) (Kd.slice 128 k128))) (fun x : S61 => (x.f0, x.f1, x.f2))
theorem k61_open {w : World} {x : S61} {cs : List Value} (h : k61.K w x cs) : ∃ A0 c0 A1 c1 A2 c2, cs = [.slice A0 x.f0.length c0, .slice A1 x.f1.length c1, .slice A2 x.f2.length c2] ∧ x.f0.length ≤ c0 ∧ k192.C w A0 x.f0.length x.f0 ∧ x.f1.length ≤ c1 ∧ k190.C w A1 x.f1.length x.f1 ∧ x.f2.length ≤ c2 ∧ k128.C w A2 x.f2.length x.f2 := by
  obtain ⟨_, _, rfl, ⟨A0, c0, rfl, l0, g0⟩, ⟨_, _, rfl, ⟨A1, c1, rfl, l1, g1⟩, ⟨A2, c2, rfl, l2, g2⟩⟩⟩ := h
  exact ⟨A0, c0, A1, c1, A2, c2, rfl, l0, g0, l1, g1, l2, g2⟩
theorem k61_openM {w : World} {base : Nat} {ok : Nat → Prop} {x : S61} {cs : List Value} (h : k61.M w base ok x cs) : ∃ v0 v1 v2, cs = [v0, v1, v2] ∧ k192.R 192 w base ok v0 x.f0 ∧ k190.R 190 w base ok v1 x.f1 ∧ k128.R 128 w base ok v2 x.f2 := by
  obtain ⟨_, _, rfl, ⟨v0, rfl, g0⟩, ⟨_, _, rfl, ⟨v1, rfl, g1⟩, ⟨v2, rfl, g2⟩⟩⟩ := h
  exact ⟨v0, v1, v2, rfl, g0, g1, g2⟩
theorem k61_mk (w : World) (x : S61) {A0 : Option Addr} {c0 : Nat} (l0 : x.f0.length ≤ c0) (g0 : k192.C w A0 x.f0.length x.f0) {A1 : Option Addr} {c1 : Nat} (l1 : x.f1.length ≤ c1) (g1 : k190.C w A1 x.f1.length x.f1) {A2 : Option Addr} {c2 : Nat} (l2 : x.f2.length ≤ c2) (g2 : k128.C w A2 x.f2.length x.f2) : k61.K w x [.slice A0 x.f0.length c0, .slice A1 x.f1.length c1, .slice A2 x.f2.length c2] := ⟨[.slice A0 x.f0.length c0], [.slice A1 x.f1.length c1, .slice A2 x.f2.length c2], rfl, ⟨A0, c0, rfl, l0, g0⟩, ⟨[.slice A1 x.f1.length c1], [.slice A2 x.f2.length c2], rfl, ⟨A1, c1, rfl, l1, g1⟩, ⟨A2, c2, rfl, l2, g2⟩⟩⟩
theorem k61_mkM (w : World) (base : Nat) (ok : Nat → Prop) (x : S61) {v0 : Value} (g0 : k192.R 192 w base ok v0 x.f0) {v1 : Value} (g1 : k190.R 190 w base ok v1 x.f1) {v2 : Value} (g2 : k128.R 128 w base ok v2 x.f2) : k61.M w base ok x [v0, v1, v2] := ⟨[v0], [v1, v2], rfl, ⟨v0, rfl, g0⟩, ⟨[v1], [v2], rfl, ⟨v1, rfl, g1⟩, ⟨v2, rfl, g2⟩⟩⟩
def rd_T61 (xs : List S61) (i : Int) : S61 := xs.getD i.toNat z61
theorem at_T61 {w : World} {A : Option Addr} {n : Nat} {xs : List S61} (h : Kd.C k61 w A n xs) (i : Int) (h0 : 0 ≤ i) (h1 : i < n) : ∃ ad A0 c0 A1 c1 A2 c2, A = some ad ∧ w.cell? (ad.add (i.toNat * 3)) = some (.slice A0 (rd_T61 xs i).f0.length c0) ∧ w.cell? ⟨(ad.add (i.toNat * 3)).block, (ad.add (i.toNat * 3)).off + 1, none⟩ = some (.slice A1 (rd_T61 xs i).f1.length c1) ∧ w.cell? ⟨(ad.add (i.toNat * 3)).block, (ad.add (i.toNat * 3)).off + 2, none⟩ = some (.slice A2 (rd_T61 xs i).f2.length c2) ∧ (rd_T61 xs i).f0.length ≤ c0 ∧ k192.C w A0 (rd_T61 xs i).f0.length (rd_T61 xs i).f0 ∧ (rd_T61 xs i).f1.length ≤ c1 ∧ k190.C w A1 (rd_T61 xs i).f1.length (rd_T61 xs i).f1 ∧ (rd_T61 xs i).f2.length ≤ c2 ∧ k128.C w A2 (rd_T61 xs i).f2.length (rd_T61 xs i).f2 := by
  obtain ⟨ad, c, e, _, hK, hc0⟩ := Kd.C_get h z61 i h0 h1
  have hc : ∀ j u, c[j]? = some u → w.cell? (ad.add (i.toNat * 3 + j)) = some u := hc0
  obtain ⟨A0, c0, A1, c1, A2, c2, rfl, l0, g0, l1, g1, l2, g2⟩ := k61_open hK
  exact ⟨ad, A0, c0, A1, c1, A2, c2, e, hc 0 _ rfl, by rw [← add_field _ _ 1 (by omega)]; exact hc 1 _ rfl, by rw [← add_field _ _ 2 (by omega)]; exact hc 2 _ rfl, l0, g0, l1, g1, l2, g2⟩

/-! #### struct type 64 -/
structure S64 where
  f0 : Int
  f1 : (List Int)
  f2 : Bool
  f3 : Bool
  f4 : Int
def z64 : S64 := ⟨(0 : Int), ([] : List Int), false, false, (0 : Int)⟩
def k64 : Kd S64 := Kd.iso (Kd.pair (Kd.int .i64) (Kd.pair (Kd.slice 3 (Kd.int .i64)) (Kd.pair Kd.bool (Kd.pair Kd.bool (Kd.int .i64))))) (fun x : S64 => (x.f0, x.f1, x.f2, x.f3, x.f4))
theorem k64_open {w : World} {x : S64} {cs : List Value} (h : k64.K w x cs) : ∃ A1 c1, cs = [.int .i64 x.f0, .slice A1 x.f1.length c1, .bool x.f2, .bool x.f3, .int .i64 x.f4] ∧ x.f1.length ≤ c1 ∧ (Kd.int .i64).C w A1 x.f1.length x.f1 := by
  obtain ⟨_, _, rfl, rfl, ⟨_, _, rfl, ⟨A1, c1, rfl, l1, g1⟩, ⟨_, _, rfl, rfl, ⟨_, _, rfl, rfl, rfl⟩⟩⟩⟩ := h
  exact ⟨A1, c1, rfl, l1, g1⟩
theorem k64_openM {w : World} {base : Nat} {ok : Nat → Prop} {x : S64} {cs : List Value} (h : k64.M w base ok x cs) : ∃ v1, cs = [.int .i64 x.f0, v1, .bool x.f2, .bool x.f3, .int .i64 x.f4] ∧ (Kd.int .i64).R 3 w base ok v1 x.f1 := by
  obtain ⟨_, _, rfl, rfl, ⟨_, _, rfl, ⟨v1, rfl, g1⟩, ⟨_, _, rfl, rfl, ⟨_, _, rfl, rfl, rfl⟩⟩⟩⟩ := h
  exact ⟨v1, rfl, g1⟩
theorem k64_mk (w : World) (x : S64) {A1 : Option Addr} {c1 : Nat} (l1 : x.f1.length ≤ c1) (g1 : (Kd.int .i64).C w A1 x.f1.length x.f1) : k64.K w x [.int .i64 x.f0, .slice A1 x.f1.length c1, .bool x.f2, .bool x.f3, .int .i64 x.f4] := ⟨[.int .i64 x.f0], [.slice A1 x.f1.length c1, .bool x.f2, .bool x.f3, .int .i64 x.f4], rfl, rfl, ⟨[.slice A1 x.f1.length c1], [.bool x.f2, .bool x.f3, .int .i64 x.f4], rfl, ⟨A1, c1, rfl, l1, g1⟩, ⟨[.bool x.f2], [.bool x.f3, .int .i64 x.f4], rfl, rfl, ⟨[.bool x.f3], [.int .i64 x.f4], rfl, rfl, rfl⟩⟩⟩⟩
theorem k64_mkM (w : World) (base : Nat) (ok : Nat → Prop) (x : S64) {v1 : Value} (g1 : (Kd.int .i64).R 3 w base ok v1 x.f1) : k64.M w base ok x [.int .i64 x.f0, v1, .bool x.f2, .bool x.f3, .int .i64 x.f4] := ⟨[.int .i64 x.f0], [v1, .bool x.f2, .bool x.f3, .int .i64 x.f4], rfl, rfl, ⟨[v1], [.bool x.f2, .bool x.f3, .int .i64 x.f4], rfl, ⟨v1, rfl, g1⟩, ⟨[.bool x.f2], [.bool x.f3, .int .i64 x.f4], rfl, rfl, ⟨[.bool x.f3], [.int .i64 x.f4], rfl, rfl, rfl⟩⟩⟩⟩
def rd_T64 (xs : List S64) (i : Int) : S64 := xs.getD i.toNat z64
theorem at_T64 {w : World} {A : Option Addr} {n : Nat} {xs : List S64} (h : Kd.C k64 w A n xs) (i : Int) (h0 : 0 ≤ i) (h1 : i < n) : ∃ ad A1 c1, A = some ad ∧ w.cell? (ad.add (i.toNat * 5)) = some (.int .i64 (rd_T64 xs i).f0) ∧ w.cell? ⟨(ad.add (i.toNat * 5)).block, (ad.add (i.toNat * 5)).off + 1, none⟩ = some (.slice A1 (rd_T64 xs i).f1.length c1) ∧ w.cell? ⟨(ad.add (i.toNat * 5)).block, (ad.add (i.toNat * 5)).off + 2, none⟩ = some (.bool (rd_T64 xs i).f2) ∧ w.cell? ⟨(ad.add (i.toNat * 5)).block, (ad.add (i.toNat * 5)).off + 3, none⟩ = some (.bool (rd_T64 xs i).f3) ∧ w.cell? ⟨(ad.add (i.toNat * 5)).block, (ad.add (i.toNat * 5)).off + 4, none⟩ = some (.int .i64 (rd_T64 xs i).f4) ∧ (rd_T64 xs i).f1.length ≤ c1 ∧ (Kd.int .i64).C w A1 (rd_T64 xs i).f1.length (rd_T64 xs i).f1 := by
  obtain ⟨ad, c, e, _, hK, hc0⟩ := Kd.C_get h z64 i h0 h1
  have hc : ∀ j u, c[j]? = some u → w.cell? (ad.add (i.toNat * 5 + j)) = some u := hc0
  obtain ⟨A1, c1, rfl, l1, g1⟩ := k64_open hK
  exact ⟨ad, A1, c1, e, hc 0 _ rfl, by rw [← add_field _ _ 1 (by omega)]; exact hc 1 _ rfl, by rw [← add_field _ _ 2 (by omega)]; exact hc 2 _ rfl, by rw [← add_field _ _ 3 (by omega)]; exact hc 3 _ rfl, by rw [← add_field _ _ 4 (by omega)]; exact hc 4 _ rfl, l1, g1⟩

/-! #### struct type 66 -/
structure S66 where
  f0 : Int
  f1 : (List Int)
  f2 : S64
def z66 : S66 := ⟨(0 : Int), ([] : List Int), z64⟩
def k66 : Kd S66 := Kd.iso (Kd.pair (Kd.int .i64) (Kd.pair (Kd.slice 3 (Kd.int .i64)) k64)) (fun x : S66 => (x.f0, x.f1, x.f2))
theorem k66_open {w : World} {x : S66} {cs : List Value} (h : k66.K w x cs) : ∃ A1 c1 A3 c3, cs = [.int .i64 x.f0, .slice A1 x.f1.length c1, .int .i64 x.f2.f0, .slice A3 x.f2.f1.length c3, .bool x.f2.f2, .bool x.f2.f3, .int .i64 x.f2.f4] ∧ x.f1.length ≤ c1 ∧ (Kd.int .i64).C w A1 x.f1.length x.f1 ∧ x.f2.f1.length ≤ c3 ∧ (Kd.int .i64).C w A3 x.f2.f1.length x.f2.f1 := by
  obtain ⟨_, _, rfl, rfl, ⟨_, _, rfl, ⟨A1, c1, rfl, l1, g1⟩, s2⟩⟩ := h
  obtain ⟨A3, c3, rfl, l3, g3⟩ := k64_open s2
  exact ⟨A1, c1, A3, c3, rfl, l1, g1, l3, g3⟩
theorem k66_openM {w : World} {base : Nat} {ok : Nat → Prop} {x : S66} {cs : List Value} (h : k66.M w base ok x cs) : ∃ v1 v3, cs = [.int .i64 x.f0, v1, .int .i64 x.f2.f0, v3, .bool x.f2.f2, .bool x.f2.f3, .int .i64 x.f2.f4] ∧ (Kd.int .i64).R 3 w base ok v1 x.f1 ∧ (Kd.int .i64).R 3 w base ok v3 x.f2.f1 := by
  obtain ⟨_, _, rfl, rfl, ⟨_, _, rfl, ⟨v1, rfl, g1⟩, s2⟩⟩ := h
  obtain ⟨v3, rfl, g3⟩ := k64_openM s2
  exact ⟨v1, v3, rfl, g1, g3⟩
theorem k66_mk (w : World) (x : S66) {A1 : Option Addr} {c1 : Nat} (l1 : x.f1.length ≤ c1) (g1 : (Kd.int .i64).C w A1 x.f1.length x.f1) {A3 : Option Addr} {c3 : Nat} (l3 : x.f2.f1.length ≤ c3) (g3 : (Kd.int .i64).C w A3 x.f2.f1.length x.f2.f1) : k66.K w x [.int .i64 x.f0, .slice A1 x.f1.length c1, .int .i64 x.f2.f0, .slice A3 x.f2.f1.length c3, .bool x.f2.f2, .bool x.f2.f3, .int .i64 x.f2.f4] := ⟨[.int .i64 x.f0], [.slice A1 x.f1.length c1, .int .i64 x.f2.f0, .slice A3 x.f2.f1.length c3, .bool x.f2.f2, .bool x.f2.f3, .int .i64 x.f2.f4], rfl, rfl, ⟨[.slice A1 x.f1.length c1], [.int .i64 x.f2.f0, .slice A3 x.f2.f1.length c3, .bool x.f2.f2, .bool x.f2.f3, .int .i64 x.f2.f4], rfl, ⟨A1, c1, rfl, l1, g1⟩, (k64_mk w x.f2 l3 g3)⟩⟩
theorem k66_mkM (w : World) (base : Nat) (ok : Nat → Prop) (x : S66) {v1 : Value} (g1 : (Kd.int .i64).R 3 w base ok v1 x.f1) {v3 : Value} (g3 : (Kd.int .i64).R 3 w base ok v3 x.f2.f1) : k66.M w base ok x [.int .i64 x.f0, v1, .int .i64 x.f2.f0, v3, .bool x.f2.f2, .bool x.f2.f3, .int .i64 x.f2.f4] := ⟨[.int .i64 x.f0], [v1, .int .i64 x.f2.f0, v3, .bool x.f2.f2, .bool x.f2.f3, .int .i64 x.f2.f4], rfl, rfl, ⟨[v1], [.int .i64 x.f2.f0, v3, .bool x.f2.f2, .bool x.f2.f3, .int .i64 x.f2.f4], rfl, ⟨v1, rfl, g1⟩, (k64_mkM w base ok x.f2 g3)⟩⟩
def rd_T66 (xs : List S66) (i : Int) : S66 := xs.getD i.toNat z66
theorem at_T66 {w : World} {A : Option Addr} {n : Nat} {xs : List S66} (h : Kd.C k66 w A n xs) (i : Int) (h0 : 0 ≤ i) (h1 : i < n) : ∃ ad A1 c1 A3 c3, A = some ad ∧ w.cell? (ad.add (i.toNat * 7)) = some (.int .i64 (rd_T66 xs i).f0) ∧ w.cell? ⟨(ad.add (i.toNat * 7)).block, (ad.add (i.toNat * 7)).off + 1, none⟩ = some (.slice A1 (rd_T66 xs i).f1.length c1) ∧ w.cell? ⟨(ad.add (i.toNat * 7)).block, (ad.add (i.toNat * 7)).off + 2, none⟩ = some (.int .i64 (rd_T66 xs i).f2.f0) ∧ w.cell? ⟨(ad.add (i.toNat * 7)).block, (ad.add (i.toNat * 7)).off + 3, none⟩ = some (.slice A3 (rd_T66 xs i).f2.f1.length c3) ∧ w.cell? ⟨(ad.add (i.toNat * 7)).block, (ad.add (i.toNat * 7)).off + 4, none⟩ = some (.bool (rd_T66 xs i).f2.f2) ∧ w.cell? ⟨(ad.add (i.toNat * 7)).block, (ad.add (i.toNat * 7)).off + 5, none⟩ = some (.bool (rd_T66 xs i).f2.f3) ∧ w.cell? ⟨(ad.add (i.toNat * 7)).block, (ad.add (i.toNat * 7)).off + 6, none⟩ = some (.int .i64 (rd_T66 xs i).f2.f4) ∧ (rd_T66 xs i).f1.length ≤ c1 ∧ (Kd.int .i64).C w A1 (rd_T66 xs i).f1.length (rd_T66 xs i).f1 ∧ (rd_T66 xs i).f2.f1.length ≤ c3 ∧ (Kd.int .i64).C w A3 (rd_T66 xs i).f2.f1.length (rd_T66 xs i).f2.f1 := by
  obtain ⟨ad, c, e, _, hK, hc0⟩ := Kd.C_get h z66 i h0 h1
  have hc : ∀ j u, c[j]? = some u → w.cell? (ad.add (i.toNat * 7 + j)) = some u := hc0
  obtain ⟨A1, c1, A3, c3, rfl, l1, g1, l3, g3⟩ := k66_open hK
  exact ⟨ad, A1, c1, A3, c3, e, hc 0 _ rfl, by rw [← add_field _ _ 1 (by omega)]; exact hc 1 _ rfl, by rw [← add_field _ _ 2 (by omega)]; exact hc 2 _ rfl, by rw [← add_field _ _ 3 (by omega)]; exact hc 3 _ rfl, by rw [← add_field _ _ 4 (by omega)]; exact hc 4 _ rfl, by rw [← add_field _ _ 5 (by omega)]; exact hc 5 _ rfl, by rw [← add_field _ _ 6 (by omega)]; exact hc 6 _ rfl, l1, g1, l3, g3⟩

/-! #### struct type 75 -/
structure S75 where
  f0 : (List ByteArray)
  f1 : Int
  f2 : Int
  f3 : Int
  f4 : Int
  f5 : Bool
def z75 : S75 := ⟨([] : List ByteArray), (0 : Int), (0 : Int), (0 : Int), (0 : Int), false⟩
def k75 : Kd S75 := Kd.iso (Kd.pair (Kd.slice 9 Kd.string) (Kd.pair (Kd.int .i64) (Kd.pair (Kd.int .i64) (Kd.pair (Kd.int .i64) (Kd.pair (Kd.int .i64) Kd.bool))))) (fun x : S75 => (x.f0, x.f1, x.f2, x.f3, x.f4, x.f5))
theorem k75_open {w : World} {x : S75} {cs : List Value} (h : k75.K w x cs) : ∃ A0 c0, cs = [.slice A0 x.f0.length c0, .int .i64 x.f1, .int .i64 x.f2, .int .i64 x.f3, .int .i64 x.f4, .bool x.f5] ∧ x.f0.length ≤ c0 ∧ Kd.string.C w A0 x.f0.length x.f0 := by
  obtain ⟨_, _, rfl, ⟨A0, c0, rfl, l0, g0⟩, ⟨_, _, rfl, rfl, ⟨_, _, rfl, rfl, ⟨_, _, rfl, rfl, ⟨_, _, rfl, rfl, rfl⟩⟩⟩⟩⟩ := h
  exact ⟨A0, c0, rfl, l0, g0⟩
theorem k75_openM {w : World} {base : Nat} {ok : Nat → Prop} {x : S75} {cs : List Value} (h : k75.M w base ok x cs) : ∃ v0, cs = [v0, .int .i64 x.f1, .int .i64 x.f2, .int .i64 x.f3, .int .i64 x.f4, .bool x.f5] ∧ Kd.string.R 9 w base ok v0 x.f0 := by
  obtain ⟨_, _, rfl, ⟨v0, rfl, g0⟩, ⟨_, _, rfl, rfl, ⟨_, _, rfl, rfl, ⟨_, _, rfl, rfl, ⟨_, _, rfl, rfl, rfl⟩⟩⟩⟩⟩ := h
  exact ⟨v0, rfl, g0⟩
theorem k75_mk (w : World) (x : S75) {A0 : Option Addr} {c0 : Nat} (l0 : x.f0.length ≤ c0) (g0 : Kd.string.C w A0 x.f0.length x.f0) : k75.K w x [.slice A0 x.f0.length c0, .int .i64 x.f1, .int .i64 x.f2, .int .i64 x.f3, .int .i64 x.f4, .bool x.f5] := ⟨[.slice A0 x.f0.length c0], [.int .i64 x.f1, .int .i64 x.f2, .int .i64 x.f3, .int .i64 x.f4, .bool x.f5], rfl, ⟨A0, c0, rfl, l0, g0⟩, ⟨[.int .i64 x.f1], [.int .i64 x.f2, .int .i64 x.f3, .int .i64 x.f4, .bool x.f5], rfl, rfl, ⟨[.int .i64 x.f2], [.int .i64 x.f3, .int .i64 x.f4, .bool x.f5], rfl, rfl, ⟨[.int .i64 x.f3], [.int .i64 x.f4, .bool x.f5], rfl, rfl, ⟨[.int .i64 x.f4], [.bool x.f5], rfl, rfl, rfl⟩⟩⟩⟩⟩
theorem k75_mkM (w : World) (base : Nat) (ok : Nat → Prop) (x : S75) {v0 : Value} (g0 : Kd.string.R 9 w base ok v0 x.f0) : k75.M w base ok x [v0, .int .i64 x.f1, .int .i64 x.f2, .int .i64 x.f3, .int .i64 x.f4, .bool x.f5] := ⟨[v0], [.int .i64 x.f1, .int .i64 x.f2, .int .i64 x.f3, .int .i64 x.f4, .bool x.f5], rfl, ⟨v0, rfl, g0⟩, ⟨[.int .i64 x.f1], [.int .i64 x.f2, .int .i64 x.f3, .int .i64 x.f4, .bool x.f5], rfl, rfl, ⟨[.int .i64 x.f2], [.int .i64 x.f3, .int .i64 x.f4, .bool x.f5], rfl, rfl, ⟨[.int .i64 x.f3], [.int .i64 x.f4, .bool x.f5], rfl, rfl, ⟨[.int .i64 x.f4], [.bool x.f5], rfl, rfl, rfl⟩⟩⟩⟩⟩
def rd_T75 (xs : List S75) (i : Int) : S75 := xs.getD i.toNat z75
theorem at_T75 {w : World} {A : Option Addr} {n : Nat} {xs : List S75} (h : Kd.C k75 w A n xs) (i : Int) (h0 : 0 ≤ i) (h1 : i < n) : ∃ ad A0 c0, A = some ad ∧ w.cell? (ad.add (i.toNat * 6)) = some (.slice A0 (rd_T75 xs i).f0.length c0) ∧ w.cell? ⟨(ad.add (i.toNat * 6)).block, (ad.add (i.toNat * 6)).off + 1, none⟩ = some (.int .i64 (rd_T75 xs i).f1) ∧ w.cell? ⟨(ad.add (i.toNat * 6)).block, (ad.add (i.toNat * 6)).off + 2, none⟩ = some (.int .i64 (rd_T75 xs i).f2) ∧ w.cell? ⟨(ad.add (i.toNat * 6)).block, (ad.add (i.toNat * 6)).off + 3, none⟩ = some (.int .i64 (rd_T75 xs i).f3) ∧ w.cell? ⟨(ad.add (i.toNat * 6)).block, (ad.add (i.toNat * 6)).off + 4, none⟩ = some (.int .i64 (rd_T75 xs i).f4) ∧ w.cell? ⟨(ad.add (i.toNat * 6)).block, (ad.add (i.toNat * 6)).off + 5, none⟩ = some (.bool (rd_T75 xs i).f5) ∧ (rd_T75 xs i).f0.length ≤ c0 ∧ Kd.string.C w A0 (rd_T75 xs i).f0.length (rd_T75 xs i).f0 := by
  obtain ⟨ad, c, e, _, hK, hc0⟩ := Kd.C_get h z75 i h0 h1
  have hc : ∀ j u, c[j]? = some u → w.cell? (ad.add (i.toNat * 6 + j)) = some u := hc0
  obtain ⟨A0, c0, rfl, l0, g0⟩ := k75_open hK
  exact ⟨ad, A0, c0, e, hc 0 _ rfl, by rw [← add_field _ _ 1 (by omega)]; exact hc 1 _ rfl, by rw [← add_field _ _ 2 (by omega)]; exact hc 2 _ rfl, by rw [← add_field _ _ 3 (by omega)]; exact hc 3 _ rfl, by rw [← add_field _ _ 4 (by omega)]; exact hc 4 _ rfl, by rw [← add_field _ _ 5 (by omega)]; exact hc 5 _ rfl, l0, g0⟩

/-! #### struct type 79 -/
structure S79 where
  f0 : (List ByteArray)
  f1 : Int
  f2 : Int
  f3 : Int
  f4 : Int
  f5 : Bool
def z79 : S79 := ⟨([] : List ByteArray), (0 : Int), (0 : Int), (0 : Int), (0 : Int), false⟩
def k79 : Kd S79 := Kd.iso (Kd.pair (Kd.slice 9 Kd.string) (Kd.pair (Kd.int .i64) (Kd.pair (Kd.int .i64) (Kd.pair (Kd.int .i64) (Kd.pair (Kd.int .i64) Kd.bool))))) (fun x : S79 => (x.f0, x.f1, x.f2, x.f3, x.f4, x.f5))
theorem k79_open {w : World} {x : S79} {cs : List Value} (h : k79.K w x cs) : ∃ A0 c0, cs = [.slice A0 x.f0.length c0, .int .i64 x.f1, .int .i64 x.f2, .int .i64 x.f3, .int .i64 x.f4, .bool x.f5] ∧ x.f0.length ≤ c0 ∧ Kd.string.C w A0 x.f0.length x.f0 := by
  obtain ⟨_, _, rfl, ⟨A0, c0, rfl, l0, g0⟩, ⟨_, _, rfl, rfl, ⟨_, _, rfl, rfl, ⟨_, _, rfl, rfl, ⟨_, _, rfl, rfl, rfl⟩⟩⟩⟩⟩ := h
  exact ⟨A0, c0, rfl, l0, g0⟩
theorem k79_openM {w : World} {base : Nat} {ok : Nat → Prop} {x : S79} {cs : List Value} (h : k79.M w base ok x cs) : ∃ v0, cs = [v0, .int .i64 x.f1, .int .i64 x.f2, .int .i64 x.f3, .int .i64 x.f4, .bool x.f5] ∧ Kd.string.R 9 w base ok v0 x.f0 := by
  obtain ⟨_, _, rfl, ⟨v0, rfl, g0⟩, ⟨_, _, rfl, rfl, ⟨_, _, rfl, rfl, ⟨_, _, rfl, rfl, ⟨_, _, rfl, rfl, rfl⟩⟩⟩⟩⟩ := h
  exact ⟨v0, rfl, g0⟩
theorem k79_mk (w : World) (x : S79) {A0 : Option Addr} {c0 : Nat} (l0 : x.f0.length ≤ c0) (g0 : Kd.string.C w A0 x.f0.length x.f0) : k79.K w x [.slice A0 x.f0.length c0, .int .i64 x.f1, .int .i64 x.f2, .int .i64 x.f3, .int .i64 x.f4, .bool x.f5] := ⟨[.slice A0 x.f0.length c0], [.int .i64 x.f1, .int .i64 x.f2, .int .i64 x.f3, .int .i64 x.f4, .bool x.f5], rfl, ⟨A0, c0, rfl, l0, g0⟩, ⟨[.int .i64 x.f1], [.int .i64 x.f2, .int .i64 x.f3, .int .i64 x.f4, .bool x.f5], rfl, rfl, ⟨[.int .i64 x.f2], [.int .i64 x.f3, .int .i64 x.f4, .bool x.f5], rfl, rfl, ⟨[.int .i64 x.f3], [.int .i64 x.f4, .bool x.f5], rfl, rfl, ⟨[.int .i64 x.f4], [.bool x.f5], rfl, rfl, rfl⟩⟩⟩⟩⟩
theorem k79_mkM (w : World) (base : Nat) (ok : Nat → Prop) (x : S79) {v0 : Value} (g0 : Kd.string.R 9 w base ok v0 x.f0) : k79.M w base ok x [v0, .int .i64 x.f1, .int .i64 x.f2, .int .i64 x.f3, .int .i64 x.f4, .bool x.f5] := ⟨[v0], [.int .i64 x.f1, .int .i64 x.f2, .int .i64 x.f3, .int .i64 x.f4, .bool x.f5], rfl, ⟨v0, rfl, g0⟩, ⟨[.int .i64 x.f1], [.int .i64 x.f2, .int .i64 x.f3, .int .i64 x.f4, .bool x.f5], rfl, rfl, ⟨[.int .i64 x.f2], [.int .i64 x.f3, .int .i64 x.f4, .bool x.f5], rfl, rfl, ⟨[.int .i64 x.f3], [.int .i64 x.f4, .bool x.f5], rfl, rfl, ⟨[.int .i64 x.f4], [.bool x.f5], rfl, rfl, rfl⟩⟩⟩⟩⟩
def rd_T79 (xs : List S79) (i : Int) : S79 := xs.getD i.toNat z79
theorem at_T79 {w : World} {A : Option Addr} {n : Nat} {xs : List S79} (h : Kd.C k79 w A n xs) (i : Int) (h0 : 0 ≤ i) (h1 : i < n) : ∃ ad A0 c0, A = some ad ∧ w.cell? (ad.add (i.toNat * 6)) = some (.slice A0 (rd_T79 xs i).f0.length c0) ∧ w.cell? ⟨(ad.add (i.toNat * 6)).block, (ad.add (i.toNat * 6)).off + 1, none⟩ = some (.int .i64 (rd_T79 xs i).f1) ∧ w.cell? ⟨(ad.add (i.toNat * 6)).block, (ad.add (i.toNat * 6)).off + 2, none⟩ = some (.int .i64 (rd_T79 xs i).f2) ∧ w.cell? ⟨(ad.add (i.toNat * 6)).block, (ad.add (i.toNat * 6)).off + 3, none⟩ = some (.int .i64 (rd_T79 xs i).f3) ∧ w.cell? ⟨(ad.add (i.toNat * 6)).block, (ad.add (i.toNat * 6)).off + 4, none⟩ = some (.int .i64 (rd_T79 xs i).f4) ∧ w.cell? ⟨(ad.add (i.toNat * 6)).block, (ad.add (i.toNat * 6)).off + 5, none⟩ = some (.bool (rd_T79 xs i).f5) ∧ (rd_T79 xs i).f0.length ≤ c0 ∧ Kd.string.C w A0 (rd_T79 xs i).f0.length (rd_T79 xs i).f0 := by
  obtain ⟨ad, c, e, _, hK, hc0⟩ := Kd.C_get h z79 i h0 h1
  have hc : ∀ j u, c[j]? = some u → w.cell? (ad.add (i.toNat * 6 + j)) = some u := hc0
  obtain ⟨A0, c0, rfl, l0, g0⟩ := k79_open hK
  exact ⟨ad, A0, c0, e, hc 0 _ rfl, by rw [← add_field _ _ 1 (by omega)]; exact hc 1 _ rfl, by rw [← add_field _ _ 2 (by omega)]; exact hc 2 _ rfl, by rw [← add_field _ _ 3 (by omega)]; exact hc 3 _ rfl, by rw [← add_field _ _ 4 (by omega)]; exact hc 4 _ rfl, by rw [← add_field _ _ 5 (by omega)]; exact hc 5 _ rfl, l0, g0⟩

theorem km154 : Up k154 := up_iso _ (up_pair up_int (up_pair up_int (up_pair up_string up_int)))
def q154 : Zd S154 := Zd.iso (Zd.pair (Zd.int .i64) (Zd.pair (Zd.int .i64) (Zd.pair Zd.string (Zd.int .i64)))) (fun x : S154 => (x.f0, x.f1, x.f2, x.f3))
theorem km241 : Up k241 := up_iso _ (up_pair up_int (up_pair up_int (up_pair (up_slice 9 up_string) (up_slice 9 up_string))))
def q241 : Zd S241 := Zd.iso (Zd.pair (Zd.int .i64) (Zd.pair (Zd.int .i64) (Zd.pair (Zd.slice 9 Zd.string) (Zd.slice 9 Zd.string)))) (fun x : S241 => (x.f0, x.f1, x.f2, x.f3))
theorem km158 : Up k158 := up_iso _ (up_pair up_string (up_pair up_int (up_pair up_int (up_pair up_int (up_pair up_int (up_pair up_int (up_pair (up_slice 241 km241) up_string)))))))
def q158 : Zd S158 := Zd.iso (Zd.pair Zd.string (Zd.pair (Zd.int .i64) (Zd.pair (Zd.int .i64) (Zd.pair (Zd.int .i64) (Zd.pair (Zd.int .i64) (Zd.pair (Zd.int .i64) (Zd.pair (Zd.slice 241 q241) Zd.string))))))) (fun x : S158 => (x.f0, x.f1, x.f2, x.f3, x.f4, x.f5, x.f6, x.f7))
theorem km160 : Up k160 := up_iso _ (up_pair up_int km158)
def q160 : Zd S160 := Zd.iso (Zd.pair (Zd.int .i64) q158) (fun x : S160 => (x.f0, x.f1))
theorem km26 : Up k26 := up_iso _ (up_pair up_string (up_pair up_int (up_pair (up_slice 154 km154) (up_pair (up_slice 160 km160) (up_slice 3 up_int)))))
def q26 : Zd S26 := Zd.iso (Zd.pair Zd.string (Zd.pair (Zd.int .i64) (Zd.pair (Zd.slice 154 q154) (Zd.pair (Zd.slice 160 q160) (Zd.slice 3 (Zd.int .i64)))))) (fun x : S26 => (x.f0, x.f1, x.f2, x.f3, x.f4))
theorem km109 : Up k109 := up_iso _ (up_pair up_int (up_pair up_int (up_pair (up_slice 9 up_string) (up_slice 9 up_string))))
def q109 : Zd S109 := Zd.iso (Zd.pair (Zd.int .i64) (Zd.pair (Zd.int .i64) (Zd.pair (Zd.slice 9 Zd.string) (Zd.slice 9 Zd.string)))) (fun x : S109 => (x.f0, x.f1, x.f2, x.f3))
theorem km40 : Up k40 := up_iso _ (up_pair up_string (up_pair up_int (up_pair up_int (up_pair up_int (up_pair up_int (up_pair up_int (up_pair (up_slice 109 km109) up_string)))))))
def q40 : Zd S40 := Zd.iso (Zd.pair Zd.string (Zd.pair (Zd.int .i64) (Zd.pair (Zd.int .i64) (Zd.pair (Zd.int .i64) (Zd.pair (Zd.int .i64) (Zd.pair (Zd.int .i64) (Zd.pair (Zd.slice 109 q109) Zd.string))))))) (fun x : S40 => (x.f0, x.f1, x.f2, x.f3, x.f4, x.f5, x.f6, x.f7))
theorem km89 : Up k89 := up_iso _ (up_pair up_int (up_pair up_int (up_pair up_string up_int)))
def q89 : Zd S89 := Zd.iso (Zd.pair (Zd.int .i64) (Zd.pair (Zd.int .i64) (Zd.pair Zd.string (Zd.int .i64)))) (fun x : S89 => (x.f0, x.f1, x.f2, x.f3))
theorem km150 : Up k150 := up_iso _ (up_pair up_int km40)
def q150 : Zd S150 := Zd.iso (Zd.pair (Zd.int .i64) q40) (fun x : S150 => (x.f0, x.f1))
theorem km31 : Up k31 := up_iso _ (up_pair up_string (up_pair up_int (up_pair (up_slice 89 km89) (up_pair (up_slice 150 km150) (up_slice 3 up_int)))))
def q31 : Zd S31 := Zd.iso (Zd.pair Zd.string (Zd.pair (Zd.int .i64) (Zd.pair (Zd.slice 89 q89) (Zd.pair (Zd.slice 150 q150) (Zd.slice 3 (Zd.int .i64)))))) (fun x : S31 => (x.f0, x.f1, x.f2, x.f3, x.f4))
theorem km100 : Up k100 := up_fix (fun d h => up_iso _ (up_pair up_int (up_pair up_string (up_slice 100 h))))
def G100 (d : Zd S100) : Zd S100 := Zd.iso (Zd.pair (Zd.int .i64) (Zd.pair Zd.string (Zd.slice 100 d))) (fun x : S100 => (x.f0, x.f1, x.f2))
theorem g100 : ZF G100 := ZF.iso _ (ZF.pair (ZF.const _) (ZF.pair (ZF.const _) (ZF.slice 100 ZF.id)))
theorem fold100 {w : World} {x : S100} {cs : List Value} (h : (F100 k100).K w x cs) : k100.K w x cs := by
  obtain ⟨_, _, rfl, rfl, _, _, rfl, rfl, ⟨A2, c2, rfl, l2, h2⟩⟩ := h
  exact k100_mk w x l2 h2
def q100 : Zd S100 := Zd.fix k100 G100 (fun d hd w x cs h => fold100 (by rw [← hd]; exact h))
theorem q100_fold {w : World} {S : FP} {x : S100} {cs : List Value} (h : (G100 q100).M w S x cs) : q100.M w S x cs := Zd.fix_fold _ _ _ g100 h
theorem km114 : Up k114 := up_iso _ up_bool
def q114 : Zd S114 := Zd.iso Zd.bool (fun x : S114 => x.f0)
theorem km180 : Up k180 := up_iso _ (up_pair up_int (up_pair up_string (up_pair up_string (up_pair up_int (up_pair up_int (up_pair up_string (up_pair up_bool (up_pair up_int (up_pair up_int (up_pair (up_slice 3 up_int) (up_pair (up_slice 9 up_string) (up_pair (up_slice 9 up_string) up_string))))))))))))
def q180 : Zd S180 := Zd.iso (Zd.pair (Zd.int .i64) (Zd.pair Zd.string (Zd.pair Zd.string (Zd.pair (Zd.int .i64) (Zd.pair (Zd.int .i64) (Zd.pair Zd.string (Zd.pair Zd.bool (Zd.pair (Zd.int .i64) (Zd.pair (Zd.int .i64) (Zd.pair (Zd.slice 3 (Zd.int .i64)) (Zd.pair (Zd.slice 9 Zd.string) (Zd.pair (Zd.slice 9 Zd.string) Zd.string)))))))))))) (fun x : S180 => (x.f0, x.f1, x.f2, x.f3, x.f4, x.f5, x.f6, x.f7, x.f8, x.f9, x.f10, x.f11, x.f12))
theorem km237 : Up k237 := up_iso _ (up_pair up_int up_int)
def q237 : Zd S237 := Zd.iso (Zd.pair (Zd.int .i64) (Zd.int .i64)) (fun x : S237 => (x.f0, x.f1))
theorem km184 : Up k184 := up_iso _ (up_pair up_string (up_pair up_int (up_pair up_int (up_pair up_int (up_pair up_int (up_pair (up_slice 237 km237) up_string))))))
def q184 : Zd S184 := Zd.iso (Zd.pair Zd.string (Zd.pair (Zd.int .i64) (Zd.pair (Zd.int .i64) (Zd.pair (Zd.int .i64) (Zd.pair (Zd.int .i64) (Zd.pair (Zd.slice 237 q237) Zd.string)))))) (fun x : S184 => (x.f0, x.f1, x.f2, x.f3, x.f4, x.f5, x.f6))
theorem km186 : Up k186 := up_iso _ (up_pair up_string up_string)
def q186 : Zd S186 := Zd.iso (Zd.pair Zd.string Zd.string) (fun x : S186 => (x.f0, x.f1))
theorem km50 : Up k50 := up_iso _ (up_pair (up_slice 180 km180) (up_pair (up_slice 184 km184) (up_slice 186 km186)))
def q50 : Zd S50 := Zd.iso (Zd.pair (Zd.slice 180 q180) (Zd.pair (Zd.slice 184 q184) (Zd.slice 186 q186))) (fun x : S50 => (x.f0, x.f1, x.f2))
theorem km52 : Up k52 := up_iso _ (up_pair up_int (up_pair (up_slice 3 up_int) (up_pair up_bool (up_pair up_bool up_int))))
def q52 : Zd S52 := Zd.iso (Zd.pair (Zd.int .i64) (Zd.pair (Zd.slice 3 (Zd.int .i64)) (Zd.pair Zd.bool (Zd.pair Zd.bool (Zd.int .i64))))) (fun x : S52 => (x.f0, x.f1, x.f2, x.f3, x.f4))
theorem km54 : Up k54 := up_iso _ (up_pair up_int (up_pair (up_slice 3 up_int) km52))
def q54 : Zd S54 := Zd.iso (Zd.pair (Zd.int .i64) (Zd.pair (Zd.slice 3 (Zd.int .i64)) q52)) (fun x : S54 => (x.f0, x.f1, x.f2))
theorem km192 : Up k192 := up_iso _ (up_pair up_int (up_pair up_string (up_pair up_string (up_pair up_int (up_pair up_int (up_pair up_string (up_pair up_bool (up_pair up_int (up_pair up_int (up_pair (up_slice 3 up_int) (up_pair (up_slice 9 up_string) (up_pair (up_slice 9 up_string) up_string))))))))))))
def q192 : Zd S192 := Zd.iso (Zd.pair (Zd.int .i64) (Zd.pair Zd.string (Zd.pair Zd.string (Zd.pair (Zd.int .i64) (Zd.pair (Zd.int .i64) (Zd.pair Zd.string (Zd.pair Zd.bool (Zd.pair (Zd.int .i64) (Zd.pair (Zd.int .i64) (Zd.pair (Zd.slice 3 (Zd.int .i64)) (Zd.pair (Zd.slice 9 Zd.string) (Zd.pair (Zd.slice 9 Zd.string) Zd.string)))))))))))) (fun x : S192 => (x.f0, x.f1, x.f2, x.f3, x.f4, x.f5, x.f6, x.f7, x.f8, x.f9, x.f10, x.f11, x.f12))
theorem km230 : Up k230 := up_iso _ (up_pair up_int up_int)
def q230 : Zd S230 := Zd.iso (Zd.pair (Zd.int .i64) (Zd.int .i64)) (fun x : S230 => (x.f0, x.f1))
theorem km190 : Up k190 := up_iso _ (up_pair up_string (up_pair up_int (up_pair up_int (up_pair up_int (up_pair up_int (up_pair (up_slice 230 km230) up_string))))))
def q190 : Zd S190 := Zd.iso (Zd.pair Zd.string (Zd.pair (Zd.int .i64) (Zd.pair (Zd.int .i64) (Zd.pair (Zd.int .i64) (Zd.pair (Zd.int .i64) (Zd.pair (Zd.slice 230 q230) Zd.string)))))) (fun x : S190 => (x.f0, x.f1, x.f2, x.f3, x.f4, x.f5, x.f6))
theorem km128 : Up k128 := up_iso _ (up_pair up_string up_string)
def q128 : Zd S128 := Zd.iso (Zd.pair Zd.string Zd.string) (fun x : S128 => (x.f0, x.f1))
theorem km61 : Up k61 := up_iso _ (up_pair (up_slice 192 km192) (up_pair (up_slice 190 km190) (up_slice 128 km128)))
def q61 : Zd S61 := Zd.iso (Zd.pair (Zd.slice 192 q192) (Zd.pair (Zd.slice 190 q190) (Zd.slice 128 q128))) (fun x : S61 => (x.f0, x.f1, x.f2))
theorem km64 : Up k64 := up_iso _ (up_pair up_int (up_pair (up_slice 3 up_int) (up_pair up_bool (up_pair up_bool up_int))))
def q64 : Zd S64 := Zd.iso (Zd.pair (Zd.int .i64) (Zd.pair (Zd.slice 3 (Zd.int .i64)) (Zd.pair Zd.bool (Zd.pair Zd.bool (Zd.int .i64))))) (fun x : S64 => (x.f0, x.f1, x.f2, x.f3, x.f4))
theorem km66 : Up k66 := up_iso _ (up_pair up_int (up_pair (up_slice 3 up_int) km64))
def q66 : Zd S66 := Zd.iso (Zd.pair (Zd.int .i64) (Zd.pair (Zd.slice 3 (Zd.int .i64)) q64)) (fun x : S66 => (x.f0, x.f1, x.f2))
theorem km75 : Up k75 := up_iso _ (up_pair (up_slice 9 up_string) (up_pair up_int (up_pair up_int (up_pair up_int (up_pair up_int up_bool)))))
def q75 : Zd S75 := Zd.iso (Zd.pair (Zd.slice 9 Zd.string) (Zd.pair (Zd.int .i64) (Zd.pair (Zd.int .i64) (Zd.pair (Zd.int .i64) (Zd.pair (Zd.int .i64) Zd.bool))))) (fun x : S75 => (x.f0, x.f1, x.f2, x.f3, x.f4, x.f5))
theorem km79 : Up k79 := up_iso _ (up_pair (up_slice 9 up_string) (up_pair up_int (up_pair up_int (up_pair up_int (up_pair up_int up_bool)))))
def q79 : Zd S79 := Zd.iso (Zd.pair (Zd.slice 9 Zd.string) (Zd.pair (Zd.int .i64) (Zd.pair (Zd.int .i64) (Zd.pair (Zd.int .i64) (Zd.pair (Zd.int .i64) Zd.bool))))) (fun x : S79 => (x.f0, x.f1, x.f2, x.f3, x.f4, x.f5))
theorem rdrep_T89 (n : Nat) (i : Int) : rd_T89 (List.replicate n z89) i = z89 := by unfold rd_T89; rw [List.getD_eq_getElem?_getD, List.getElem?_replicate]; split <;> rfl
theorem rdrep_T100 (n : Nat) (i : Int) : rd_T100 (List.replicate n z100) i = z100 := by unfold rd_T100; rw [List.getD_eq_getElem?_getD, List.getElem?_replicate]; split <;> rfl
theorem rdrep_T109 (n : Nat) (i : Int) : rd_T109 (List.replicate n z109) i = z109 := by unfold rd_T109; rw [List.getD_eq_getElem?_getD, List.getElem?_replicate]; split <;> rfl
theorem rdrep_T128 (n : Nat) (i : Int) : rd_T128 (List.replicate n z128) i = z128 := by unfold rd_T128; rw [List.getD_eq_getElem?_getD, List.getElem?_replicate]; split <;> rfl
theorem rdrep_T150 (n : Nat) (i : Int) : rd_T150 (List.replicate n z150) i = z150 := by unfold rd_T150; rw [List.getD_eq_getElem?_getD, List.getElem?_replicate]; split <;> rfl
theorem rdrep_T190 (n : Nat) (i : Int) : rd_T190 (List.replicate n z190) i = z190 := by unfold rd_T190; rw [List.getD_eq_getElem?_getD, List.getElem?_replicate]; split <;> rfl
theorem rdrep_T192 (n : Nat) (i : Int) : rd_T192 (List.replicate n z192) i = z192 := by unfold rd_T192; rw [List.getD_eq_getElem?_getD, List.getElem?_replicate]; split <;> rfl
theorem rdrep_T230 (n : Nat) (i : Int) : rd_T230 (List.replicate n z230) i = z230 := by unfold rd_T230; rw [List.getD_eq_getElem?_getD, List.getElem?_replicate]; split <;> rfl
theorem rd_T89_get {xs : List S89} {i : Int} (hl : i.toNat < xs.length) : xs[i.toNat] = rd_T89 xs i := by unfold rd_T89; simp [List.getD_eq_getElem?_getD, hl]
theorem rd_T109_get {xs : List S109} {i : Int} (hl : i.toNat < xs.length) : xs[i.toNat] = rd_T109 xs i := by unfold rd_T109; simp [List.getD_eq_getElem?_getD, hl]
theorem rd_T128_get {xs : List S128} {i : Int} (hl : i.toNat < xs.length) : xs[i.toNat] = rd_T128 xs i := by unfold rd_T128; simp [List.getD_eq_getElem?_getD, hl]
theorem rd_T150_get {xs : List S150} {i : Int} (hl : i.toNat < xs.length) : xs[i.toNat] = rd_T150 xs i := by unfold rd_T150; simp [List.getD_eq_getElem?_getD, hl]
theorem rd_T190_get {xs : List S190} {i : Int} (hl : i.toNat < xs.length) : xs[i.toNat] = rd_T190 xs i := by unfold rd_T190; simp [List.getD_eq_getElem?_getD, hl]
theorem rd_T192_get {xs : List S192} {i : Int} (hl : i.toNat < xs.length) : xs[i.toNat] = rd_T192 xs i := by unfold rd_T192; simp [List.getD_eq_getElem?_getD, hl]
theorem rd_T230_get {xs : List S230} {i : Int} (hl : i.toNat < xs.length) : xs[i.toNat] = rd_T230 xs i := by unfold rd_T230; simp [List.getD_eq_getElem?_getD, hl]
theorem info3 : (Try.prog.info? 3).map (fun i => (i.zero, i.size, i.bytes)) = some (some (.int .i64 0), 1, 8) := by kernel_rfl
theorem info5 : (Try.prog.info? 5).map (fun i => (i.zero, i.size, i.bytes)) = some (some (.int .u8 0), 1, 1) := by kernel_rfl
theorem info9 : (Try.prog.info? 9).map (fun i => (i.zero, i.size, i.bytes)) = some (some (.string ⟨#[]⟩), 1, 16) := by kernel_rfl
theorem info89 : (Try.prog.info? 89).map (fun i => (i.zero, i.size, i.bytes)) = some (some (.agg #[.int .i64 0, .int .i64 0, .string ⟨#[]⟩, .int .i64 0]), 4, 40) := by kernel_rfl
theorem info100 : (Try.prog.info? 100).map (fun i => (i.zero, i.size, i.bytes)) = some (some (.agg #[.int .i64 0, .string ⟨#[]⟩, .slice none 0 0]), 3, 48) := by kernel_rfl
theorem info109 : (Try.prog.info? 109).map (fun i => (i.zero, i.size, i.bytes)) = some (some (.agg #[.int .i64 0, .int .i64 0, .slice none 0 0, .slice none 0 0]), 4, 64) := by kernel_rfl
theorem info128 : (Try.prog.info? 128).map (fun i => (i.zero, i.size, i.bytes)) = some (some (.agg #[.string ⟨#[]⟩, .string ⟨#[]⟩]), 2, 32) := by kernel_rfl
theorem info150 : (Try.prog.info? 150).map (fun i => (i.zero, i.size, i.bytes)) = some (some (.agg #[.int .i64 0, .string ⟨#[]⟩, .int .i64 0, .int .i64 0, .int .i64 0, .int .i64 0, .int .i64 0, .slice none 0 0, .string ⟨#[]⟩]), 9, 104) := by kernel_rfl
theorem info190 : (Try.prog.info? 190).map (fun i => (i.zero, i.size, i.bytes)) = some (some (.agg #[.string ⟨#[]⟩, .int .i64 0, .int .i64 0, .int .i64 0, .int .i64 0, .slice none 0 0, .string ⟨#[]⟩]), 7, 88) := by kernel_rfl
theorem info192 : (Try.prog.info? 192).map (fun i => (i.zero, i.size, i.bytes)) = some (some (.agg #[.int .i64 0, .string ⟨#[]⟩, .string ⟨#[]⟩, .int .i64 0, .int .i64 0, .string ⟨#[]⟩, .bool false, .int .i64 0, .int .i64 0, .slice none 0 0, .slice none 0 0, .slice none 0 0, .string ⟨#[]⟩]), 13, 184) := by kernel_rfl
theorem info230 : (Try.prog.info? 230).map (fun i => (i.zero, i.size, i.bytes)) = some (some (.agg #[.int .i64 0, .int .i64 0]), 2, 16) := by kernel_rfl
theorem fl89 : Flat q89 := flat_iso _ (flat_pair (flat_int _) (flat_pair (flat_int _) (flat_pair flat_string (flat_int _))))
theorem fl230 : Flat q230 := flat_iso _ (flat_pair (flat_int _) (flat_int _))
theorem fl128 : Flat q128 := flat_iso _ (flat_pair flat_string flat_string)
def u89_0_3 (x : S89) (y : Int) : S89 := { x with f0 := y }
theorem lens89_0_3 : Lens q89 (Zd.int .i64) 0 (fun x => x.f0) u89_0_3 := (Lens.iso (Lens.left (Lens.refl (Zd.int .i64))) _ (fun x : S89 => x.f0) (fun (x : S89) y => { x with f0 := y }) (fun _ => rfl) (fun _ _ => rfl))
def u89_1_3 (x : S89) (y : Int) : S89 := { x with f1 := y }
theorem lens89_1_3 : Lens q89 (Zd.int .i64) 1 (fun x => x.f1) u89_1_3 := (Lens.iso (Lens.right (a := (Zd.int .i64)) (Lens.left (Lens.refl (Zd.int .i64)))) _ (fun x : S89 => x.f1) (fun (x : S89) y => { x with f1 := y }) (fun _ => rfl) (fun _ _ => rfl))
def u89_2_9 (x : S89) (y : ByteArray) : S89 := { x with f2 := y }
theorem lens89_2_9 : Lens q89 Zd.string 2 (fun x => x.f2) u89_2_9 := (Lens.iso (Lens.right (a := (Zd.int .i64)) (Lens.right (a := (Zd.int .i64)) (Lens.left (Lens.refl Zd.string)))) _ (fun x : S89 => x.f2) (fun (x : S89) y => { x with f2 := y }) (fun _ => rfl) (fun _ _ => rfl))
def u89_3_3 (x : S89) (y : Int) : S89 := { x with f3 := y }
theorem lens89_3_3 : Lens q89 (Zd.int .i64) 3 (fun x => x.f3) u89_3_3 := (Lens.iso (Lens.right (a := (Zd.int .i64)) (Lens.right (a := (Zd.int .i64)) (Lens.right (a := Zd.string) (Lens.refl (Zd.int .i64))))) _ (fun x : S89 => x.f3) (fun (x : S89) y => { x with f3 := y }) (fun _ => rfl) (fun _ _ => rfl))
def u109_0_3 (x : S109) (y : Int) : S109 := { x with f0 := y }
theorem lens109_0_3 : Lens q109 (Zd.int .i64) 0 (fun x => x.f0) u109_0_3 := (Lens.iso (Lens.left (Lens.refl (Zd.int .i64))) _ (fun x : S109 => x.f0) (fun (x : S109) y => { x with f0 := y }) (fun _ => rfl) (fun _ _ => rfl))
def u109_1_3 (x : S109) (y : Int) : S109 := { x with f1 := y }
theorem lens109_1_3 : Lens q109 (Zd.int .i64) 1 (fun x => x.f1) u109_1_3 := (Lens.iso (Lens.right (a := (Zd.int .i64)) (Lens.left (Lens.refl (Zd.int .i64)))) _ (fun x : S109 => x.f1) (fun (x : S109) y => { x with f1 := y }) (fun _ => rfl) (fun _ _ => rfl))
def u109_2_73 (x : S109) (y : (List ByteArray)) : S109 := { x with f2 := y }
theorem lens109_2_73 : Lens q109 (Zd.slice 9 Zd.string) 2 (fun x => x.f2) u109_2_73 := (Lens.iso (Lens.right (a := (Zd.int .i64)) (Lens.right (a := (Zd.int .i64)) (Lens.left (Lens.refl (Zd.slice 9 Zd.string))))) _ (fun x : S109 => x.f2) (fun (x : S109) y => { x with f2 := y }) (fun _ => rfl) (fun _ _ => rfl))
def u109_3_73 (x : S109) (y : (List ByteArray)) : S109 := { x with f3 := y }
theorem lens109_3_73 : Lens q109 (Zd.slice 9 Zd.string) 3 (fun x => x.f3) u109_3_73 := (Lens.iso (Lens.right (a := (Zd.int .i64)) (Lens.right (a := (Zd.int .i64)) (Lens.right (a := (Zd.slice 9 Zd.string)) (Lens.refl (Zd.slice 9 Zd.string))))) _ (fun x : S109 => x.f3) (fun (x : S109) y => { x with f3 := y }) (fun _ => rfl) (fun _ _ => rfl))
def u150_0_3 (x : S150) (y : Int) : S150 := { x with f0 := y }
theorem lens150_0_3 : Lens q150 (Zd.int .i64) 0 (fun x => x.f0) u150_0_3 := (Lens.iso (Lens.left (Lens.refl (Zd.int .i64))) _ (fun x : S150 => x.f0) (fun (x : S150) y => { x with f0 := y }) (fun _ => rfl) (fun _ _ => rfl))
def u150_1_9 (x : S150) (y : ByteArray) : S150 := { x with f1.f0 := y }
theorem lens150_1_9 : Lens q150 Zd.string 1 (fun x => x.f1.f0) u150_1_9 := (Lens.iso (Lens.right (a := (Zd.int .i64)) (Lens.iso (Lens.left (Lens.refl Zd.string)) _ (fun x : S40 => x.f0) (fun (x : S40) y => { x with f0 := y }) (fun _ => rfl) (fun _ _ => rfl))) _ (fun x : S150 => x.f1.f0) (fun (x : S150) y => { x with f1.f0 := y }) (fun _ => rfl) (fun _ _ => rfl))
def u150_2_3 (x : S150) (y : Int) : S150 := { x with f1.f1 := y }
theorem lens150_2_3 : Lens q150 (Zd.int .i64) 2 (fun x => x.f1.f1) u150_2_3 := (Lens.iso (Lens.right (a := (Zd.int .i64)) (Lens.iso (Lens.right (a := Zd.string) (Lens.left (Lens.refl (Zd.int .i64)))) _ (fun x : S40 => x.f1) (fun (x : S40) y => { x with f1 := y }) (fun _ => rfl) (fun _ _ => rfl))) _ (fun x : S150 => x.f1.f1) (fun (x : S150) y => { x with f1.f1 := y }) (fun _ => rfl) (fun _ _ => rfl))
def u150_3_3 (x : S150) (y : Int) : S150 := { x with f1.f2 := y }
theorem lens150_3_3 : Lens q150 (Zd.int .i64) 3 (fun x => x.f1.f2) u150_3_3 := (Lens.iso (Lens.right (a := (Zd.int .i64)) (Lens.iso (Lens.right (a := Zd.string) (Lens.right (a := (Zd.int .i64)) (Lens.left (Lens.refl (Zd.int .i64))))) _ (fun x : S40 => x.f2) (fun (x : S40) y => { x with f2 := y }) (fun _ => rfl) (fun _ _ => rfl))) _ (fun x : S150 => x.f1.f2) (fun (x : S150) y => { x with f1.f2 := y }) (fun _ => rfl) (fun _ _ => rfl))
def u150_4_3 (x : S150) (y : Int) : S150 := { x with f1.f3 := y }
theorem lens150_4_3 : Lens q150 (Zd.int .i64) 4 (fun x => x.f1.f3) u150_4_3 := (Lens.iso (Lens.right (a := (Zd.int .i64)) (Lens.iso (Lens.right (a := Zd.string) (Lens.right (a := (Zd.int .i64)) (Lens.right (a := (Zd.int .i64)) (Lens.left (Lens.refl (Zd.int .i64)))))) _ (fun x : S40 => x.f3) (fun (x : S40) y => { x with f3 := y }) (fun _ => rfl) (fun _ _ => rfl))) _ (fun x : S150 => x.f1.f3) (fun (x : S150) y => { x with f1.f3 := y }) (fun _ => rfl) (fun _ _ => rfl))
def u150_5_3 (x : S150) (y : Int) : S150 := { x with f1.f4 := y }
theorem lens150_5_3 : Lens q150 (Zd.int .i64) 5 (fun x => x.f1.f4) u150_5_3 := (Lens.iso (Lens.right (a := (Zd.int .i64)) (Lens.iso (Lens.right (a := Zd.string) (Lens.right (a := (Zd.int .i64)) (Lens.right (a := (Zd.int .i64)) (Lens.right (a := (Zd.int .i64)) (Lens.left (Lens.refl (Zd.int .i64))))))) _ (fun x : S40 => x.f4) (fun (x : S40) y => { x with f4 := y }) (fun _ => rfl) (fun _ _ => rfl))) _ (fun x : S150 => x.f1.f4) (fun (x : S150) y => { x with f1.f4 := y }) (fun _ => rfl) (fun _ _ => rfl))
def u150_6_3 (x : S150) (y : Int) : S150 := { x with f1.f5 := y }
theorem lens150_6_3 : Lens q150 (Zd.int .i64) 6 (fun x => x.f1.f5) u150_6_3 := (Lens.iso (Lens.right (a := (Zd.int .i64)) (Lens.iso (Lens.right (a := Zd.string) (Lens.right (a := (Zd.int .i64)) (Lens.right (a := (Zd.int .i64)) (Lens.right (a := (Zd.int .i64)) (Lens.right (a := (Zd.int .i64)) (Lens.left (Lens.refl (Zd.int .i64)))))))) _ (fun x : S40 => x.f5) (fun (x : S40) y => { x with f5 := y }) (fun _ => rfl) (fun _ _ => rfl))) _ (fun x : S150 => x.f1.f5) (fun (x : S150) y => { x with f1.f5 := y }) (fun _ => rfl) (fun _ _ => rfl))
def u150_7_38 (x : S150) (y : (List S109)) : S150 := { x with f1.f6 := y }
theorem lens150_7_38 : Lens q150 (Zd.slice 109 q109) 7 (fun x => x.f1.f6) u150_7_38 := (Lens.iso (Lens.right (a := (Zd.int .i64)) (Lens.iso (Lens.right (a := Zd.string) (Lens.right (a := (Zd.int .i64)) (Lens.right (a := (Zd.int .i64)) (Lens.right (a := (Zd.int .i64)) (Lens.right (a := (Zd.int .i64)) (Lens.right (a := (Zd.int .i64)) (Lens.left (Lens.refl (Zd.slice 109 q109))))))))) _ (fun x : S40 => x.f6) (fun (x : S40) y => { x with f6 := y }) (fun _ => rfl) (fun _ _ => rfl))) _ (fun x : S150 => x.f1.f6) (fun (x : S150) y => { x with f1.f6 := y }) (fun _ => rfl) (fun _ _ => rfl))
def u150_8_9 (x : S150) (y : ByteArray) : S150 := { x with f1.f7 := y }
theorem lens150_8_9 : Lens q150 Zd.string 8 (fun x => x.f1.f7) u150_8_9 := (Lens.iso (Lens.right (a := (Zd.int .i64)) (Lens.iso (Lens.right (a := Zd.string) (Lens.right (a := (Zd.int .i64)) (Lens.right (a := (Zd.int .i64)) (Lens.right (a := (Zd.int .i64)) (Lens.right (a := (Zd.int .i64)) (Lens.right (a := (Zd.int .i64)) (Lens.right (a := (Zd.slice 109 q109)) (Lens.refl Zd.string)))))))) _ (fun x : S40 => x.f7) (fun (x : S40) y => { x with f7 := y }) (fun _ => rfl) (fun _ _ => rfl))) _ (fun x : S150 => x.f1.f7) (fun (x : S150) y => { x with f1.f7 := y }) (fun _ => rfl) (fun _ _ => rfl))
def u192_0_3 (x : S192) (y : Int) : S192 := { x with f0 := y }
theorem lens192_0_3 : Lens q192 (Zd.int .i64) 0 (fun x => x.f0) u192_0_3 := (Lens.iso (Lens.left (Lens.refl (Zd.int .i64))) _ (fun x : S192 => x.f0) (fun (x : S192) y => { x with f0 := y }) (fun _ => rfl) (fun _ _ => rfl))
def u192_1_9 (x : S192) (y : ByteArray) : S192 := { x with f1 := y }
theorem lens192_1_9 : Lens q192 Zd.string 1 (fun x => x.f1) u192_1_9 := (Lens.iso (Lens.right (a := (Zd.int .i64)) (Lens.left (Lens.refl Zd.string))) _ (fun x : S192 => x.f1) (fun (x : S192) y => { x with f1 := y }) (fun _ => rfl) (fun _ _ => rfl))
def u192_2_9 (x : S192) (y : ByteArray) : S192 := { x with f2 := y }
theorem lens192_2_9 : Lens q192 Zd.string 2 (fun x => x.f2) u192_2_9 := (Lens.iso (Lens.right (a := (Zd.int .i64)) (Lens.right (a := Zd.string) (Lens.left (Lens.refl Zd.string)))) _ (fun x : S192 => x.f2) (fun (x : S192) y => { x with f2 := y }) (fun _ => rfl) (fun _ _ => rfl))
def u192_3_3 (x : S192) (y : Int) : S192 := { x with f3 := y }
theorem lens192_3_3 : Lens q192 (Zd.int .i64) 3 (fun x => x.f3) u192_3_3 := (Lens.iso (Lens.right (a := (Zd.int .i64)) (Lens.right (a := Zd.string) (Lens.right (a := Zd.string) (Lens.left (Lens.refl (Zd.int .i64)))))) _ (fun x : S192 => x.f3) (fun (x : S192) y => { x with f3 := y }) (fun _ => rfl) (fun _ _ => rfl))
def u192_4_3 (x : S192) (y : Int) : S192 := { x with f4 := y }
theorem lens192_4_3 : Lens q192 (Zd.int .i64) 4 (fun x => x.f4) u192_4_3 := (Lens.iso (Lens.right (a := (Zd.int .i64)) (Lens.right (a := Zd.string) (Lens.right (a := Zd.string) (Lens.right (a := (Zd.int .i64)) (Lens.left (Lens.refl (Zd.int .i64))))))) _ (fun x : S192 => x.f4) (fun (x : S192) y => { x with f4 := y }) (fun _ => rfl) (fun _ _ => rfl))
def u192_5_9 (x : S192) (y : ByteArray) : S192 := { x with f5 := y }
theorem lens192_5_9 : Lens q192 Zd.string 5 (fun x => x.f5) u192_5_9 := (Lens.iso (Lens.right (a := (Zd.int .i64)) (Lens.right (a := Zd.string) (Lens.right (a := Zd.string) (Lens.right (a := (Zd.int .i64)) (Lens.right (a := (Zd.int .i64)) (Lens.left (Lens.refl Zd.string))))))) _ (fun x : S192 => x.f5) (fun (x : S192) y => { x with f5 := y }) (fun _ => rfl) (fun _ _ => rfl))
def u192_6_4 (x : S192) (y : Bool) : S192 := { x with f6 := y }
theorem lens192_6_4 : Lens q192 Zd.bool 6 (fun x => x.f6) u192_6_4 := (Lens.iso (Lens.right (a := (Zd.int .i64)) (Lens.right (a := Zd.string) (Lens.right (a := Zd.string) (Lens.right (a := (Zd.int .i64)) (Lens.right (a := (Zd.int .i64)) (Lens.right (a := Zd.string) (Lens.left (Lens.refl Zd.bool)))))))) _ (fun x : S192 => x.f6) (fun (x : S192) y => { x with f6 := y }) (fun _ => rfl) (fun _ _ => rfl))
def u192_7_3 (x : S192) (y : Int) : S192 := { x with f7 := y }
theorem lens192_7_3 : Lens q192 (Zd.int .i64) 7 (fun x => x.f7) u192_7_3 := (Lens.iso (Lens.right (a := (Zd.int .i64)) (Lens.right (a := Zd.string) (Lens.right (a := Zd.string) (Lens.right (a := (Zd.int .i64)) (Lens.right (a := (Zd.int .i64)) (Lens.right (a := Zd.string) (Lens.right (a := Zd.bool) (Lens.left (Lens.refl (Zd.int .i64)))))))))) _ (fun x : S192 => x.f7) (fun (x : S192) y => { x with f7 := y }) (fun _ => rfl) (fun _ _ => rfl))
def u192_8_3 (x : S192) (y : Int) : S192 := { x with f8 := y }
theorem lens192_8_3 : Lens q192 (Zd.int .i64) 8 (fun x => x.f8) u192_8_3 := (Lens.iso (Lens.right (a := (Zd.int .i64)) (Lens.right (a := Zd.string) (Lens.right (a := Zd.string) (Lens.right (a := (Zd.int .i64)) (Lens.right (a := (Zd.int .i64)) (Lens.right (a := Zd.string) (Lens.right (a := Zd.bool) (Lens.right (a := (Zd.int .i64)) (Lens.left (Lens.refl (Zd.int .i64))))))))))) _ (fun x : S192 => x.f8) (fun (x : S192) y => { x with f8 := y }) (fun _ => rfl) (fun _ _ => rfl))
def u192_9_24 (x : S192) (y : (List Int)) : S192 := { x with f9 := y }
theorem lens192_9_24 : Lens q192 (Zd.slice 3 (Zd.int .i64)) 9 (fun x => x.f9) u192_9_24 := (Lens.iso (Lens.right (a := (Zd.int .i64)) (Lens.right (a := Zd.string) (Lens.right (a := Zd.string) (Lens.right (a := (Zd.int .i64)) (Lens.right (a := (Zd.int .i64)) (Lens.right (a := Zd.string) (Lens.right (a := Zd.bool) (Lens.right (a := (Zd.int .i64)) (Lens.right (a := (Zd.int .i64)) (Lens.left (Lens.refl (Zd.slice 3 (Zd.int .i64))))))))))))) _ (fun x : S192 => x.f9) (fun (x : S192) y => { x with f9 := y }) (fun _ => rfl) (fun _ _ => rfl))
def u192_10_73 (x : S192) (y : (List ByteArray)) : S192 := { x with f10 := y }
theorem lens192_10_73 : Lens q192 (Zd.slice 9 Zd.string) 10 (fun x => x.f10) u192_10_73 := (Lens.iso (Lens.right (a := (Zd.int .i64)) (Lens.right (a := Zd.string) (Lens.right (a := Zd.string) (Lens.right (a := (Zd.int .i64)) (Lens.right (a := (Zd.int .i64)) (Lens.right (a := Zd.string) (Lens.right (a := Zd.bool) (Lens.right (a := (Zd.int .i64)) (Lens.right (a := (Zd.int .i64)) (Lens.right (a := (Zd.slice 3 (Zd.int .i64))) (Lens.left (Lens.refl (Zd.slice 9 Zd.string))))))))))))) _ (fun x : S192 => x.f10) (fun (x : S192) y => { x with f10 := y }) (fun _ => rfl) (fun _ _ => rfl))
def u192_11_73 (x : S192) (y : (List ByteArray)) : S192 := { x with f11 := y }
theorem lens192_11_73 : Lens q192 (Zd.slice 9 Zd.string) 11 (fun x => x.f11) u192_11_73 := (Lens.iso (Lens.right (a := (Zd.int .i64)) (Lens.right (a := Zd.string) (Lens.right (a := Zd.string) (Lens.right (a := (Zd.int .i64)) (Lens.right (a := (Zd.int .i64)) (Lens.right (a := Zd.string) (Lens.right (a := Zd.bool) (Lens.right (a := (Zd.int .i64)) (Lens.right (a := (Zd.int .i64)) (Lens.right (a := (Zd.slice 3 (Zd.int .i64))) (Lens.right (a := (Zd.slice 9 Zd.string)) (Lens.left (Lens.refl (Zd.slice 9 Zd.string)))))))))))))) _ (fun x : S192 => x.f11) (fun (x : S192) y => { x with f11 := y }) (fun _ => rfl) (fun _ _ => rfl))
def u192_12_9 (x : S192) (y : ByteArray) : S192 := { x with f12 := y }
theorem lens192_12_9 : Lens q192 Zd.string 12 (fun x => x.f12) u192_12_9 := (Lens.iso (Lens.right (a := (Zd.int .i64)) (Lens.right (a := Zd.string) (Lens.right (a := Zd.string) (Lens.right (a := (Zd.int .i64)) (Lens.right (a := (Zd.int .i64)) (Lens.right (a := Zd.string) (Lens.right (a := Zd.bool) (Lens.right (a := (Zd.int .i64)) (Lens.right (a := (Zd.int .i64)) (Lens.right (a := (Zd.slice 3 (Zd.int .i64))) (Lens.right (a := (Zd.slice 9 Zd.string)) (Lens.right (a := (Zd.slice 9 Zd.string)) (Lens.refl Zd.string))))))))))))) _ (fun x : S192 => x.f12) (fun (x : S192) y => { x with f12 := y }) (fun _ => rfl) (fun _ _ => rfl))
def u230_0_3 (x : S230) (y : Int) : S230 := { x with f0 := y }
theorem lens230_0_3 : Lens q230 (Zd.int .i64) 0 (fun x => x.f0) u230_0_3 := (Lens.iso (Lens.left (Lens.refl (Zd.int .i64))) _ (fun x : S230 => x.f0) (fun (x : S230) y => { x with f0 := y }) (fun _ => rfl) (fun _ _ => rfl))
def u230_1_3 (x : S230) (y : Int) : S230 := { x with f1 := y }
theorem lens230_1_3 : Lens q230 (Zd.int .i64) 1 (fun x => x.f1) u230_1_3 := (Lens.iso (Lens.right (a := (Zd.int .i64)) (Lens.refl (Zd.int .i64))) _ (fun x : S230 => x.f1) (fun (x : S230) y => { x with f1 := y }) (fun _ => rfl) (fun _ _ => rfl))
def u190_0_9 (x : S190) (y : ByteArray) : S190 := { x with f0 := y }
theorem lens190_0_9 : Lens q190 Zd.string 0 (fun x => x.f0) u190_0_9 := (Lens.iso (Lens.left (Lens.refl Zd.string)) _ (fun x : S190 => x.f0) (fun (x : S190) y => { x with f0 := y }) (fun _ => rfl) (fun _ _ => rfl))
def u190_1_3 (x : S190) (y : Int) : S190 := { x with f1 := y }
theorem lens190_1_3 : Lens q190 (Zd.int .i64) 1 (fun x => x.f1) u190_1_3 := (Lens.iso (Lens.right (a := Zd.string) (Lens.left (Lens.refl (Zd.int .i64)))) _ (fun x : S190 => x.f1) (fun (x : S190) y => { x with f1 := y }) (fun _ => rfl) (fun _ _ => rfl))
def u190_2_3 (x : S190) (y : Int) : S190 := { x with f2 := y }
theorem lens190_2_3 : Lens q190 (Zd.int .i64) 2 (fun x => x.f2) u190_2_3 := (Lens.iso (Lens.right (a := Zd.string) (Lens.right (a := (Zd.int .i64)) (Lens.left (Lens.refl (Zd.int .i64))))) _ (fun x : S190 => x.f2) (fun (x : S190) y => { x with f2 := y }) (fun _ => rfl) (fun _ _ => rfl))
def u190_3_3 (x : S190) (y : Int) : S190 := { x with f3 := y }
theorem lens190_3_3 : Lens q190 (Zd.int .i64) 3 (fun x => x.f3) u190_3_3 := (Lens.iso (Lens.right (a := Zd.string) (Lens.right (a := (Zd.int .i64)) (Lens.right (a := (Zd.int .i64)) (Lens.left (Lens.refl (Zd.int .i64)))))) _ (fun x : S190 => x.f3) (fun (x : S190) y => { x with f3 := y }) (fun _ => rfl) (fun _ _ => rfl))
def u190_4_3 (x : S190) (y : Int) : S190 := { x with f4 := y }
theorem lens190_4_3 : Lens q190 (Zd.int .i64) 4 (fun x => x.f4) u190_4_3 := (Lens.iso (Lens.right (a := Zd.string) (Lens.right (a := (Zd.int .i64)) (Lens.right (a := (Zd.int .i64)) (Lens.right (a := (Zd.int .i64)) (Lens.left (Lens.refl (Zd.int .i64))))))) _ (fun x : S190 => x.f4) (fun (x : S190) y => { x with f4 := y }) (fun _ => rfl) (fun _ _ => rfl))
def u190_5_188 (x : S190) (y : (List S230)) : S190 := { x with f5 := y }
theorem lens190_5_188 : Lens q190 (Zd.slice 230 q230) 5 (fun x => x.f5) u190_5_188 := (Lens.iso (Lens.right (a := Zd.string) (Lens.right (a := (Zd.int .i64)) (Lens.right (a := (Zd.int .i64)) (Lens.right (a := (Zd.int .i64)) (Lens.right (a := (Zd.int .i64)) (Lens.left (Lens.refl (Zd.slice 230 q230)))))))) _ (fun x : S190 => x.f5) (fun (x : S190) y => { x with f5 := y }) (fun _ => rfl) (fun _ _ => rfl))
def u190_6_9 (x : S190) (y : ByteArray) : S190 := { x with f6 := y }
theorem lens190_6_9 : Lens q190 Zd.string 6 (fun x => x.f6) u190_6_9 := (Lens.iso (Lens.right (a := Zd.string) (Lens.right (a := (Zd.int .i64)) (Lens.right (a := (Zd.int .i64)) (Lens.right (a := (Zd.int .i64)) (Lens.right (a := (Zd.int .i64)) (Lens.right (a := (Zd.slice 230 q230)) (Lens.refl Zd.string))))))) _ (fun x : S190 => x.f6) (fun (x : S190) y => { x with f6 := y }) (fun _ => rfl) (fun _ _ => rfl))
def u128_0_9 (x : S128) (y : ByteArray) : S128 := { x with f0 := y }
theorem lens128_0_9 : Lens q128 Zd.string 0 (fun x => x.f0) u128_0_9 := (Lens.iso (Lens.left (Lens.refl Zd.string)) _ (fun x : S128 => x.f0) (fun (x : S128) y => { x with f0 := y }) (fun _ => rfl) (fun _ _ => rfl))
def u128_1_9 (x : S128) (y : ByteArray) : S128 := { x with f1 := y }
theorem lens128_1_9 : Lens q128 Zd.string 1 (fun x => x.f1) u128_1_9 := (Lens.iso (Lens.right (a := Zd.string) (Lens.refl Zd.string)) _ (fun x : S128 => x.f1) (fun (x : S128) y => { x with f1 := y }) (fun _ => rfl) (fun _ _ => rfl))
theorem q109_zero (w : World) (S : FP) : q109.M w S z109 [.int .i64 0, .int .i64 0, .slice none 0 0, .slice none 0 0] := made_none (a := q109) ((pair_app (a := (Zd.int .i64)) (b := (Zd.pair (Zd.int .i64) (Zd.pair (Zd.slice 9 Zd.string) (Zd.slice 9 Zd.string)))) (w := w) (S := (fun (_ : Nat) (_ : Nat) => False)) (js1 := []) (js2 := []) (x := z109.f0) (y := (z109.f1, (z109.f2, z109.f3))) (c0 := [.int .i64 0]) (c1 := [.int .i64 0, .slice none 0 0, .slice none 0 0]) hd_none rfl (pair_app (a := (Zd.int .i64)) (b := (Zd.pair (Zd.slice 9 Zd.string) (Zd.slice 9 Zd.string))) (w := w) (S := (fun (_ : Nat) (_ : Nat) => False)) (js1 := []) (js2 := []) (x := z109.f1) (y := (z109.f2, z109.f3)) (c0 := [.int .i64 0]) (c1 := [.slice none 0 0, .slice none 0 0]) hd_none rfl (pair_app (a := (Zd.slice 9 Zd.string)) (b := (Zd.slice 9 Zd.string)) (w := w) (S := (fun (_ : Nat) (_ : Nat) => False)) (js1 := []) (js2 := []) (x := z109.f2) (y := z109.f3) (c0 := [.slice none 0 0]) (c1 := [.slice none 0 0]) hd_none row_none row_none List.nodup_nil) List.nodup_nil) List.nodup_nil))
theorem q109_pack {w : World} {S : Nat → FP} {x : S109} {v0 v1 : Value} {j0 j1 : Nat} (hd : ∀ i j k, i ≠ j → S i k → ¬ S j k) (h0 : (Zd.slice 9 Zd.string).M w (S j0) x.f2 [v0]) (h1 : (Zd.slice 9 Zd.string).M w (S j1) x.f3 [v1]) (hn : [j0, j1].Nodup) : q109.M w (fun k => ∃ i, i ∈ [j0, j1] ∧ S i k) x [.int .i64 x.f0, .int .i64 x.f1, v0, v1] := ((pair_app (a := (Zd.int .i64)) (b := (Zd.pair (Zd.int .i64) (Zd.pair (Zd.slice 9 Zd.string) (Zd.slice 9 Zd.string)))) (w := w) (S := S) (js1 := []) (js2 := [j0, j1]) (x := x.f0) (y := (x.f1, (x.f2, x.f3))) (c0 := [.int .i64 x.f0]) (c1 := [.int .i64 x.f1, v0, v1]) hd rfl (pair_app (a := (Zd.int .i64)) (b := (Zd.pair (Zd.slice 9 Zd.string) (Zd.slice 9 Zd.string))) (w := w) (S := S) (js1 := []) (js2 := [j0, j1]) (x := x.f1) (y := (x.f2, x.f3)) (c0 := [.int .i64 x.f1]) (c1 := [v0, v1]) hd rfl (pair_app (a := (Zd.slice 9 Zd.string)) (b := (Zd.slice 9 Zd.string)) (w := w) (S := S) (js1 := [j0]) (js2 := [j1]) (x := x.f2) (y := x.f3) (c0 := [v0]) (c1 := [v1]) hd (made_one h0) (made_one h1) hn) hn) hn))
theorem q89_zero (w : World) (S : FP) : q89.M w S z89 [.int .i64 0, .int .i64 0, .string (⟨#[]⟩ : ByteArray), .int .i64 0] := made_none (a := q89) ((pair_app (a := (Zd.int .i64)) (b := (Zd.pair (Zd.int .i64) (Zd.pair Zd.string (Zd.int .i64)))) (w := w) (S := (fun (_ : Nat) (_ : Nat) => False)) (js1 := []) (js2 := []) (x := z89.f0) (y := (z89.f1, (z89.f2, z89.f3))) (c0 := [.int .i64 0]) (c1 := [.int .i64 0, .string (⟨#[]⟩ : ByteArray), .int .i64 0]) hd_none rfl (pair_app (a := (Zd.int .i64)) (b := (Zd.pair Zd.string (Zd.int .i64))) (w := w) (S := (fun (_ : Nat) (_ : Nat) => False)) (js1 := []) (js2 := []) (x := z89.f1) (y := (z89.f2, z89.f3)) (c0 := [.int .i64 0]) (c1 := [.string (⟨#[]⟩ : ByteArray), .int .i64 0]) hd_none rfl (pair_app (a := Zd.string) (b := (Zd.int .i64)) (w := w) (S := (fun (_ : Nat) (_ : Nat) => False)) (js1 := []) (js2 := []) (x := z89.f2) (y := z89.f3) (c0 := [.string (⟨#[]⟩ : ByteArray)]) (c1 := [.int .i64 0]) hd_none rfl rfl List.nodup_nil) List.nodup_nil) List.nodup_nil))
theorem q89_flat (w : World) (S : FP) (x : S89) : q89.M w S x [.int .i64 x.f0, .int .i64 x.f1, .string x.f2, .int .i64 x.f3] := made_none (a := q89) ((pair_app (a := (Zd.int .i64)) (b := (Zd.pair (Zd.int .i64) (Zd.pair Zd.string (Zd.int .i64)))) (w := w) (S := (fun (_ : Nat) (_ : Nat) => False)) (js1 := []) (js2 := []) (x := x.f0) (y := (x.f1, (x.f2, x.f3))) (c0 := [.int .i64 x.f0]) (c1 := [.int .i64 x.f1, .string x.f2, .int .i64 x.f3]) hd_none rfl (pair_app (a := (Zd.int .i64)) (b := (Zd.pair Zd.string (Zd.int .i64))) (w := w) (S := (fun (_ : Nat) (_ : Nat) => False)) (js1 := []) (js2 := []) (x := x.f1) (y := (x.f2, x.f3)) (c0 := [.int .i64 x.f1]) (c1 := [.string x.f2, .int .i64 x.f3]) hd_none rfl (pair_app (a := Zd.string) (b := (Zd.int .i64)) (w := w) (S := (fun (_ : Nat) (_ : Nat) => False)) (js1 := []) (js2 := []) (x := x.f2) (y := x.f3) (c0 := [.string x.f2]) (c1 := [.int .i64 x.f3]) hd_none rfl rfl List.nodup_nil) List.nodup_nil) List.nodup_nil))
theorem q150_zero (w : World) (S : FP) : q150.M w S z150 [.int .i64 0, .string (⟨#[]⟩ : ByteArray), .int .i64 0, .int .i64 0, .int .i64 0, .int .i64 0, .int .i64 0, .slice none 0 0, .string (⟨#[]⟩ : ByteArray)] := made_none (a := q150) ((pair_app (a := (Zd.int .i64)) (b := q40) (w := w) (S := (fun (_ : Nat) (_ : Nat) => False)) (js1 := []) (js2 := []) (x := z150.f0) (y := z150.f1) (c0 := [.int .i64 0]) (c1 := [.string (⟨#[]⟩ : ByteArray), .int .i64 0, .int .i64 0, .int .i64 0, .int .i64 0, .int .i64 0, .slice none 0 0, .string (⟨#[]⟩ : ByteArray)]) hd_none rfl (pair_app (a := Zd.string) (b := (Zd.pair (Zd.int .i64) (Zd.pair (Zd.int .i64) (Zd.pair (Zd.int .i64) (Zd.pair (Zd.int .i64) (Zd.pair (Zd.int .i64) (Zd.pair (Zd.slice 109 q109) Zd.string))))))) (w := w) (S := (fun (_ : Nat) (_ : Nat) => False)) (js1 := []) (js2 := []) (x := z150.f1.f0) (y := (z150.f1.f1, (z150.f1.f2, (z150.f1.f3, (z150.f1.f4, (z150.f1.f5, (z150.f1.f6, z150.f1.f7))))))) (c0 := [.string (⟨#[]⟩ : ByteArray)]) (c1 := [.int .i64 0, .int .i64 0, .int .i64 0, .int .i64 0, .int .i64 0, .slice none 0 0, .string (⟨#[]⟩ : ByteArray)]) hd_none rfl (pair_app (a := (Zd.int .i64)) (b := (Zd.pair (Zd.int .i64) (Zd.pair (Zd.int .i64) (Zd.pair (Zd.int .i64) (Zd.pair (Zd.int .i64) (Zd.pair (Zd.slice 109 q109) Zd.string)))))) (w := w) (S := (fun (_ : Nat) (_ : Nat) => False)) (js1 := []) (js2 := []) (x := z150.f1.f1) (y := (z150.f1.f2, (z150.f1.f3, (z150.f1.f4, (z150.f1.f5, (z150.f1.f6, z150.f1.f7)))))) (c0 := [.int .i64 0]) (c1 := [.int .i64 0, .int .i64 0, .int .i64 0, .int .i64 0, .slice none 0 0, .string (⟨#[]⟩ : ByteArray)]) hd_none rfl (pair_app (a := (Zd.int .i64)) (b := (Zd.pair (Zd.int .i64) (Zd.pair (Zd.int .i64) (Zd.pair (Zd.int .i64) (Zd.pair (Zd.slice 109 q109) Zd.string))))) (w := w) (S := (fun (_ : Nat) (_ : Nat) => False)) (js1 := []) (js2 := []) (x := z150.f1.f2) (y := (z150.f1.f3, (z150.f1.f4, (z150.f1.f5, (z150.f1.f6, z150.f1.f7))))) (c0 := [.int .i64 0]) (c1 := [.int .i64 0, .int .i64 0, .int .i64 0, .slice none 0 0, .string (⟨#[]⟩ : ByteArray)]) hd_none rfl (pair_app (a := (Zd.int .i64)) (b := (Zd.pair (Zd.int .i64) (Zd.pair (Zd.int .i64) (Zd.pair (Zd.slice 109 q109) Zd.string)))) (w := w) (S := (fun (_ : Nat) (_ : Nat) => False)) (js1 := []) (js2 := []) (x := z150.f1.f3) (y := (z150.f1.f4, (z150.f1.f5, (z150.f1.f6, z150.f1.f7)))) (c0 := [.int .i64 0]) (c1 := [.int .i64 0, .int .i64 0, .slice none 0 0, .string (⟨#[]⟩ : ByteArray)]) hd_none rfl (pair_app (a := (Zd.int .i64)) (b := (Zd.pair (Zd.int .i64) (Zd.pair (Zd.slice 109 q109) Zd.string))) (w := w) (S := (fun (_ : Nat) (_ : Nat) => False)) (js1 := []) (js2 := []) (x := z150.f1.f4) (y := (z150.f1.f5, (z150.f1.f6, z150.f1.f7))) (c0 := [.int .i64 0]) (c1 := [.int .i64 0, .slice none 0 0, .string (⟨#[]⟩ : ByteArray)]) hd_none rfl (pair_app (a := (Zd.int .i64)) (b := (Zd.pair (Zd.slice 109 q109) Zd.string)) (w := w) (S := (fun (_ : Nat) (_ : Nat) => False)) (js1 := []) (js2 := []) (x := z150.f1.f5) (y := (z150.f1.f6, z150.f1.f7)) (c0 := [.int .i64 0]) (c1 := [.slice none 0 0, .string (⟨#[]⟩ : ByteArray)]) hd_none rfl (pair_app (a := (Zd.slice 109 q109)) (b := Zd.string) (w := w) (S := (fun (_ : Nat) (_ : Nat) => False)) (js1 := []) (js2 := []) (x := z150.f1.f6) (y := z150.f1.f7) (c0 := [.slice none 0 0]) (c1 := [.string (⟨#[]⟩ : ByteArray)]) hd_none row_none rfl List.nodup_nil) List.nodup_nil) List.nodup_nil) List.nodup_nil) List.nodup_nil) List.nodup_nil) List.nodup_nil) List.nodup_nil))
theorem q150_pack {w : World} {S : Nat → FP} {x : S150} {v0 : Value} {j0 : Nat} (hd : ∀ i j k, i ≠ j → S i k → ¬ S j k) (h0 : (Zd.slice 109 q109).M w (S j0) x.f1.f6 [v0]) (hn : [j0].Nodup) : q150.M w (fun k => ∃ i, i ∈ [j0] ∧ S i k) x [.int .i64 x.f0, .string x.f1.f0, .int .i64 x.f1.f1, .int .i64 x.f1.f2, .int .i64 x.f1.f3, .int .i64 x.f1.f4, .int .i64 x.f1.f5, v0, .string x.f1.f7] := ((pair_app (a := (Zd.int .i64)) (b := q40) (w := w) (S := S) (js1 := []) (js2 := [j0]) (x := x.f0) (y := x.f1) (c0 := [.int .i64 x.f0]) (c1 := [.string x.f1.f0, .int .i64 x.f1.f1, .int .i64 x.f1.f2, .int .i64 x.f1.f3, .int .i64 x.f1.f4, .int .i64 x.f1.f5, v0, .string x.f1.f7]) hd rfl (pair_app (a := Zd.string) (b := (Zd.pair (Zd.int .i64) (Zd.pair (Zd.int .i64) (Zd.pair (Zd.int .i64) (Zd.pair (Zd.int .i64) (Zd.pair (Zd.int .i64) (Zd.pair (Zd.slice 109 q109) Zd.string))))))) (w := w) (S := S) (js1 := []) (js2 := [j0]) (x := x.f1.f0) (y := (x.f1.f1, (x.f1.f2, (x.f1.f3, (x.f1.f4, (x.f1.f5, (x.f1.f6, x.f1.f7))))))) (c0 := [.string x.f1.f0]) (c1 := [.int .i64 x.f1.f1, .int .i64 x.f1.f2, .int .i64 x.f1.f3, .int .i64 x.f1.f4, .int .i64 x.f1.f5, v0, .string x.f1.f7]) hd rfl (pair_app (a := (Zd.int .i64)) (b := (Zd.pair (Zd.int .i64) (Zd.pair (Zd.int .i64) (Zd.pair (Zd.int .i64) (Zd.pair (Zd.int .i64) (Zd.pair (Zd.slice 109 q109) Zd.string)))))) (w := w) (S := S) (js1 := []) (js2 := [j0]) (x := x.f1.f1) (y := (x.f1.f2, (x.f1.f3, (x.f1.f4, (x.f1.f5, (x.f1.f6, x.f1.f7)))))) (c0 := [.int .i64 x.f1.f1]) (c1 := [.int .i64 x.f1.f2, .int .i64 x.f1.f3, .int .i64 x.f1.f4, .int .i64 x.f1.f5, v0, .string x.f1.f7]) hd rfl (pair_app (a := (Zd.int .i64)) (b := (Zd.pair (Zd.int .i64) (Zd.pair (Zd.int .i64) (Zd.pair (Zd.int .i64) (Zd.pair (Zd.slice 109 q109) Zd.string))))) (w := w) (S := S) (js1 := []) (js2 := [j0]) (x := x.f1.f2) (y := (x.f1.f3, (x.f1.f4, (x.f1.f5, (x.f1.f6, x.f1.f7))))) (c0 := [.int .i64 x.f1.f2]) (c1 := [.int .i64 x.f1.f3, .int .i64 x.f1.f4, .int .i64 x.f1.f5, v0, .string x.f1.f7]) hd rfl (pair_app (a := (Zd.int .i64)) (b := (Zd.pair (Zd.int .i64) (Zd.pair (Zd.int .i64) (Zd.pair (Zd.slice 109 q109) Zd.string)))) (w := w) (S := S) (js1 := []) (js2 := [j0]) (x := x.f1.f3) (y := (x.f1.f4, (x.f1.f5, (x.f1.f6, x.f1.f7)))) (c0 := [.int .i64 x.f1.f3]) (c1 := [.int .i64 x.f1.f4, .int .i64 x.f1.f5, v0, .string x.f1.f7]) hd rfl (pair_app (a := (Zd.int .i64)) (b := (Zd.pair (Zd.int .i64) (Zd.pair (Zd.slice 109 q109) Zd.string))) (w := w) (S := S) (js1 := []) (js2 := [j0]) (x := x.f1.f4) (y := (x.f1.f5, (x.f1.f6, x.f1.f7))) (c0 := [.int .i64 x.f1.f4]) (c1 := [.int .i64 x.f1.f5, v0, .string x.f1.f7]) hd rfl (pair_app (a := (Zd.int .i64)) (b := (Zd.pair (Zd.slice 109 q109) Zd.string)) (w := w) (S := S) (js1 := []) (js2 := [j0]) (x := x.f1.f5) (y := (x.f1.f6, x.f1.f7)) (c0 := [.int .i64 x.f1.f5]) (c1 := [v0, .string x.f1.f7]) hd rfl (pair_app (a := (Zd.slice 109 q109)) (b := Zd.string) (w := w) (S := S) (js1 := [j0]) (js2 := []) (x := x.f1.f6) (y := x.f1.f7) (c0 := [v0]) (c1 := [.string x.f1.f7]) hd (made_one h0) rfl hn) hn) hn) hn) hn) hn) hn) hn))
theorem q100_zero (w : World) (S : FP) : q100.M w S z100 [.int .i64 0, .string (⟨#[]⟩ : ByteArray), .slice none 0 0] := made_none (a := q100) (q100_fold (pair_app (a := (Zd.int .i64)) (b := (Zd.pair Zd.string (Zd.slice 100 q100))) (w := w) (S := (fun (_ : Nat) (_ : Nat) => False)) (js1 := []) (js2 := []) (x := z100.f0) (y := (z100.f1, z100.f2)) (c0 := [.int .i64 0]) (c1 := [.string (⟨#[]⟩ : ByteArray), .slice none 0 0]) hd_none rfl (pair_app (a := Zd.string) (b := (Zd.slice 100 q100)) (w := w) (S := (fun (_ : Nat) (_ : Nat) => False)) (js1 := []) (js2 := []) (x := z100.f1) (y := z100.f2) (c0 := [.string (⟨#[]⟩ : ByteArray)]) (c1 := [.slice none 0 0]) hd_none rfl row_none List.nodup_nil) List.nodup_nil))
theorem q100_pack {w : World} {S : Nat → FP} {x : S100} {v0 : Value} {j0 : Nat} (hd : ∀ i j k, i ≠ j → S i k → ¬ S j k) (h0 : (Zd.slice 100 q100).M w (S j0) x.f2 [v0]) (hn : [j0].Nodup) : q100.M w (fun k => ∃ i, i ∈ [j0] ∧ S i k) x [.int .i64 x.f0, .string x.f1, v0] := (q100_fold (pair_app (a := (Zd.int .i64)) (b := (Zd.pair Zd.string (Zd.slice 100 q100))) (w := w) (S := S) (js1 := []) (js2 := [j0]) (x := x.f0) (y := (x.f1, x.f2)) (c0 := [.int .i64 x.f0]) (c1 := [.string x.f1, v0]) hd rfl (pair_app (a := Zd.string) (b := (Zd.slice 100 q100)) (w := w) (S := S) (js1 := []) (js2 := [j0]) (x := x.f1) (y := x.f2) (c0 := [.string x.f1]) (c1 := [v0]) hd rfl (made_one h0) hn) hn))
theorem q192_zero (w : World) (S : FP) : q192.M w S z192 [.int .i64 0, .string (⟨#[]⟩ : ByteArray), .string (⟨#[]⟩ : ByteArray), .int .i64 0, .int .i64 0, .string (⟨#[]⟩ : ByteArray), .bool false, .int .i64 0, .int .i64 0, .slice none 0 0, .slice none 0 0, .slice none 0 0, .string (⟨#[]⟩ : ByteArray)] := made_none (a := q192) ((pair_app (a := (Zd.int .i64)) (b := (Zd.pair Zd.string (Zd.pair Zd.string (Zd.pair (Zd.int .i64) (Zd.pair (Zd.int .i64) (Zd.pair Zd.string (Zd.pair Zd.bool (Zd.pair (Zd.int .i64) (Zd.pair (Zd.int .i64) (Zd.pair (Zd.slice 3 (Zd.int .i64)) (Zd.pair (Zd.slice 9 Zd.string) (Zd.pair (Zd.slice 9 Zd.string) Zd.string)))))))))))) (w := w) (S := (fun (_ : Nat) (_ : Nat) => False)) (js1 := []) (js2 := []) (x := z192.f0) (y := (z192.f1, (z192.f2, (z192.f3, (z192.f4, (z192.f5, (z192.f6, (z192.f7, (z192.f8, (z192.f9, (z192.f10, (z192.f11, z192.f12)))))))))))) (c0 := [.int .i64 0]) (c1 := [.string (⟨#[]⟩ : ByteArray), .string (⟨#[]⟩ : ByteArray), .int .i64 0, .int .i64 0, .string (⟨#[]⟩ : ByteArray), .bool false, .int .i64 0, .int .i64 0, .slice none 0 0, .slice none 0 0, .slice none 0 0, .string (⟨#[]⟩ : ByteArray)]) hd_none rfl (pair_app (a := Zd.string) (b := (Zd.pair Zd.string (Zd.pair (Zd.int .i64) (Zd.pair (Zd.int .i64) (Zd.pair Zd.string (Zd.pair Zd.bool (Zd.pair (Zd.int .i64) (Zd.pair (Zd.int .i64) (Zd.pair (Zd.slice 3 (Zd.int .i64)) (Zd.pair (Zd.slice 9 Zd.string) (Zd.pair (Zd.slice 9 Zd.string) Zd.string))))))))))) (w := w) (S := (fun (_ : Nat) (_ : Nat) => False)) (js1 := []) (js2 := []) (x := z192.f1) (y := (z192.f2, (z192.f3, (z192.f4, (z192.f5, (z192.f6, (z192.f7, (z192.f8, (z192.f9, (z192.f10, (z192.f11, z192.f12))))))))))) (c0 := [.string (⟨#[]⟩ : ByteArray)]) (c1 := [.string (⟨#[]⟩ : ByteArray), .int .i64 0, .int .i64 0, .string (⟨#[]⟩ : ByteArray), .bool false, .int .i64 0, .int .i64 0, .slice none 0 0, .slice none 0 0, .slice none 0 0, .string (⟨#[]⟩ : ByteArray)]) hd_none rfl (pair_app (a := Zd.string) (b := (Zd.pair (Zd.int .i64) (Zd.pair (Zd.int .i64) (Zd.pair Zd.string (Zd.pair Zd.bool (Zd.pair (Zd.int .i64) (Zd.pair (Zd.int .i64) (Zd.pair (Zd.slice 3 (Zd.int .i64)) (Zd.pair (Zd.slice 9 Zd.string) (Zd.pair (Zd.slice 9 Zd.string) Zd.string)))))))))) (w := w) (S := (fun (_ : Nat) (_ : Nat) => False)) (js1 := []) (js2 := []) (x := z192.f2) (y := (z192.f3, (z192.f4, (z192.f5, (z192.f6, (z192.f7, (z192.f8, (z192.f9, (z192.f10, (z192.f11, z192.f12)))))))))) (c0 := [.string (⟨#[]⟩ : ByteArray)]) (c1 := [.int .i64 0, .int .i64 0, .string (⟨#[]⟩ : ByteArray), .bool false, .int .i64 0, .int .i64 0, .slice none 0 0, .slice none 0 0, .slice none 0 0, .string (⟨#[]⟩ : ByteArray)]) hd_none rfl (pair_app (a := (Zd.int .i64)) (b := (Zd.pair (Zd.int .i64) (Zd.pair Zd.string (Zd.pair Zd.bool (Zd.pair (Zd.int .i64) (Zd.pair (Zd.int .i64) (Zd.pair (Zd.slice 3 (Zd.int .i64)) (Zd.pair (Zd.slice 9 Zd.string) (Zd.pair (Zd.slice 9 Zd.string) Zd.string))))))))) (w := w) (S := (fun (_ : Nat) (_ : Nat) => False)) (js1 := []) (js2 := []) (x := z192.f3) (y := (z192.f4, (z192.f5, (z192.f6, (z192.f7, (z192.f8, (z192.f9, (z192.f10, (z192.f11, z192.f12))))))))) (c0 := [.int .i64 0]) (c1 := [.int .i64 0, .string (⟨#[]⟩ : ByteArray), .bool false, .int .i64 0, .int .i64 0, .slice none 0 0, .slice none 0 0, .slice none 0 0, .string (⟨#[]⟩ : ByteArray)]) hd_none rfl (pair_app (a := (Zd.int .i64)) (b := (Zd.pair Zd.string (Zd.pair Zd.bool (Zd.pair (Zd.int .i64) (Zd.pair (Zd.int .i64) (Zd.pair (Zd.slice 3 (Zd.int .i64)) (Zd.pair (Zd.slice 9 Zd.string) (Zd.pair (Zd.slice 9 Zd.string) Zd.string)))))))) (w := w) (S := (fun (_ : Nat) (_ : Nat) => False)) (js1 := []) (js2 := []) (x := z192.f4) (y := (z192.f5, (z192.f6, (z192.f7, (z192.f8, (z192.f9, (z192.f10, (z192.f11, z192.f12)))))))) (c0 := [.int .i64 0]) (c1 := [.string (⟨#[]⟩ : ByteArray), .bool false, .int .i64 0, .int .i64 0, .slice none 0 0, .slice none 0 0, .slice none 0 0, .string (⟨#[]⟩ : ByteArray)]) hd_none rfl (pair_app (a := Zd.string) (b := (Zd.pair Zd.bool (Zd.pair (Zd.int .i64) (Zd.pair (Zd.int .i64) (Zd.pair (Zd.slice 3 (Zd.int .i64)) (Zd.pair (Zd.slice 9 Zd.string) (Zd.pair (Zd.slice 9 Zd.string) Zd.string))))))) (w := w) (S := (fun (_ : Nat) (_ : Nat) => False)) (js1 := []) (js2 := []) (x := z192.f5) (y := (z192.f6, (z192.f7, (z192.f8, (z192.f9, (z192.f10, (z192.f11, z192.f12))))))) (c0 := [.string (⟨#[]⟩ : ByteArray)]) (c1 := [.bool false, .int .i64 0, .int .i64 0, .slice none 0 0, .slice none 0 0, .slice none 0 0, .string (⟨#[]⟩ : ByteArray)]) hd_none rfl (pair_app (a := Zd.bool) (b := (Zd.pair (Zd.int .i64) (Zd.pair (Zd.int .i64) (Zd.pair (Zd.slice 3 (Zd.int .i64)) (Zd.pair (Zd.slice 9 Zd.string) (Zd.pair (Zd.slice 9 Zd.string) Zd.string)))))) (w := w) (S := (fun (_ : Nat) (_ : Nat) => False)) (js1 := []) (js2 := []) (x := z192.f6) (y := (z192.f7, (z192.f8, (z192.f9, (z192.f10, (z192.f11, z192.f12)))))) (c0 := [.bool false]) (c1 := [.int .i64 0, .int .i64 0, .slice none 0 0, .slice none 0 0, .slice none 0 0, .string (⟨#[]⟩ : ByteArray)]) hd_none rfl (pair_app (a := (Zd.int .i64)) (b := (Zd.pair (Zd.int .i64) (Zd.pair (Zd.slice 3 (Zd.int .i64)) (Zd.pair (Zd.slice 9 Zd.string) (Zd.pair (Zd.slice 9 Zd.string) Zd.string))))) (w := w) (S := (fun (_ : Nat) (_ : Nat) => False)) (js1 := []) (js2 := []) (x := z192.f7) (y := (z192.f8, (z192.f9, (z192.f10, (z192.f11, z192.f12))))) (c0 := [.int .i64 0]) (c1 := [.int .i64 0, .slice none 0 0, .slice none 0 0, .slice none 0 0, .string (⟨#[]⟩ : ByteArray)]) hd_none rfl (pair_app (a := (Zd.int .i64)) (b := (Zd.pair (Zd.slice 3 (Zd.int .i64)) (Zd.pair (Zd.slice 9 Zd.string) (Zd.pair (Zd.slice 9 Zd.string) Zd.string)))) (w := w) (S := (fun (_ : Nat) (_ : Nat) => False)) (js1 := []) (js2 := []) (x := z192.f8) (y := (z192.f9, (z192.f10, (z192.f11, z192.f12)))) (c0 := [.int .i64 0]) (c1 := [.slice none 0 0, .slice none 0 0, .slice none 0 0, .string (⟨#[]⟩ : ByteArray)]) hd_none rfl (pair_app (a := (Zd.slice 3 (Zd.int .i64))) (b := (Zd.pair (Zd.slice 9 Zd.string) (Zd.pair (Zd.slice 9 Zd.string) Zd.string))) (w := w) (S := (fun (_ : Nat) (_ : Nat) => False)) (js1 := []) (js2 := []) (x := z192.f9) (y := (z192.f10, (z192.f11, z192.f12))) (c0 := [.slice none 0 0]) (c1 := [.slice none 0 0, .slice none 0 0, .string (⟨#[]⟩ : ByteArray)]) hd_none row_none (pair_app (a := (Zd.slice 9 Zd.string)) (b := (Zd.pair (Zd.slice 9 Zd.string) Zd.string)) (w := w) (S := (fun (_ : Nat) (_ : Nat) => False)) (js1 := []) (js2 := []) (x := z192.f10) (y := (z192.f11, z192.f12)) (c0 := [.slice none 0 0]) (c1 := [.slice none 0 0, .string (⟨#[]⟩ : ByteArray)]) hd_none row_none (pair_app (a := (Zd.slice 9 Zd.string)) (b := Zd.string) (w := w) (S := (fun (_ : Nat) (_ : Nat) => False)) (js1 := []) (js2 := []) (x := z192.f11) (y := z192.f12) (c0 := [.slice none 0 0]) (c1 := [.string (⟨#[]⟩ : ByteArray)]) hd_none row_none rfl List.nodup_nil) List.nodup_nil) List.nodup_nil) List.nodup_nil) List.nodup_nil) List.nodup_nil) List.nodup_nil) List.nodup_nil) List.nodup_nil) List.nodup_nil) List.nodup_nil) List.nodup_nil))
theorem q192_pack {w : World} {S : Nat → FP} {x : S192} {v0 v1 v2 : Value} {j0 j1 j2 : Nat} (hd : ∀ i j k, i ≠ j → S i k → ¬ S j k) (h0 : (Zd.slice 3 (Zd.int .i64)).M w (S j0) x.f9 [v0]) (h1 : (Zd.slice 9 Zd.string).M w (S j1) x.f10 [v1]) (h2 : (Zd.slice 9 Zd.string).M w (S j2) x.f11 [v2]) (hn : [j0, j1, j2].Nodup) : q192.M w (fun k => ∃ i, i ∈ [j0, j1, j2] ∧ S i k) x [.int .i64 x.f0, .string x.f1, .string x.f2, .int .i64 x.f3, .int .i64 x.f4, .string x.f5, .bool x.f6, .int .i64 x.f7, .int .i64 x.f8, v0, v1, v2, .string x.f12] := ((pair_app (a := (Zd.int .i64)) (b := (Zd.pair Zd.string (Zd.pair Zd.string (Zd.pair (Zd.int .i64) (Zd.pair (Zd.int .i64) (Zd.pair Zd.string (Zd.pair Zd.bool (Zd.pair (Zd.int .i64) (Zd.pair (Zd.int .i64) (Zd.pair (Zd.slice 3 (Zd.int .i64)) (Zd.pair (Zd.slice 9 Zd.string) (Zd.pair (Zd.slice 9 Zd.string) Zd.string)))))))))))) (w := w) (S := S) (js1 := []) (js2 := [j0, j1, j2]) (x := x.f0) (y := (x.f1, (x.f2, (x.f3, (x.f4, (x.f5, (x.f6, (x.f7, (x.f8, (x.f9, (x.f10, (x.f11, x.f12)))))))))))) (c0 := [.int .i64 x.f0]) (c1 := [.string x.f1, .string x.f2, .int .i64 x.f3, .int .i64 x.f4, .string x.f5, .bool x.f6, .int .i64 x.f7, .int .i64 x.f8, v0, v1, v2, .string x.f12]) hd rfl (pair_app (a := Zd.string) (b := (Zd.pair Zd.string (Zd.pair (Zd.int .i64) (Zd.pair (Zd.int .i64) (Zd.pair Zd.string (Zd.pair Zd.bool (Zd.pair (Zd.int .i64) (Zd.pair (Zd.int .i64) (Zd.pair (Zd.slice 3 (Zd.int .i64)) (Zd.pair (Zd.slice 9 Zd.string) (Zd.pair (Zd.slice 9 Zd.string) Zd.string))))))))))) (w := w) (S := S) (js1 := []) (js2 := [j0, j1, j2]) (x := x.f1) (y := (x.f2, (x.f3, (x.f4, (x.f5, (x.f6, (x.f7, (x.f8, (x.f9, (x.f10, (x.f11, x.f12))))))))))) (c0 := [.string x.f1]) (c1 := [.string x.f2, .int .i64 x.f3, .int .i64 x.f4, .string x.f5, .bool x.f6, .int .i64 x.f7, .int .i64 x.f8, v0, v1, v2, .string x.f12]) hd rfl (pair_app (a := Zd.string) (b := (Zd.pair (Zd.int .i64) (Zd.pair (Zd.int .i64) (Zd.pair Zd.string (Zd.pair Zd.bool (Zd.pair (Zd.int .i64) (Zd.pair (Zd.int .i64) (Zd.pair (Zd.slice 3 (Zd.int .i64)) (Zd.pair (Zd.slice 9 Zd.string) (Zd.pair (Zd.slice 9 Zd.string) Zd.string)))))))))) (w := w) (S := S) (js1 := []) (js2 := [j0, j1, j2]) (x := x.f2) (y := (x.f3, (x.f4, (x.f5, (x.f6, (x.f7, (x.f8, (x.f9, (x.f10, (x.f11, x.f12)))))))))) (c0 := [.string x.f2]) (c1 := [.int .i64 x.f3, .int .i64 x.f4, .string x.f5, .bool x.f6, .int .i64 x.f7, .int .i64 x.f8, v0, v1, v2, .string x.f12]) hd rfl (pair_app (a := (Zd.int .i64)) (b := (Zd.pair (Zd.int .i64) (Zd.pair Zd.string (Zd.pair Zd.bool (Zd.pair (Zd.int .i64) (Zd.pair (Zd.int .i64) (Zd.pair (Zd.slice 3 (Zd.int .i64)) (Zd.pair (Zd.slice 9 Zd.string) (Zd.pair (Zd.slice 9 Zd.string) Zd.string))))))))) (w := w) (S := S) (js1 := []) (js2 := [j0, j1, j2]) (x := x.f3) (y := (x.f4, (x.f5, (x.f6, (x.f7, (x.f8, (x.f9, (x.f10, (x.f11, x.f12))))))))) (c0 := [.int .i64 x.f3]) (c1 := [.int .i64 x.f4, .string x.f5, .bool x.f6, .int .i64 x.f7, .int .i64 x.f8, v0, v1, v2, .string x.f12]) hd rfl (pair_app (a := (Zd.int .i64)) (b := (Zd.pair Zd.string (Zd.pair Zd.bool (Zd.pair (Zd.int .i64) (Zd.pair (Zd.int .i64) (Zd.pair (Zd.slice 3 (Zd.int .i64)) (Zd.pair (Zd.slice 9 Zd.string) (Zd.pair (Zd.slice 9 Zd.string) Zd.string)))))))) (w := w) (S := S) (js1 := []) (js2 := [j0, j1, j2]) (x := x.f4) (y := (x.f5, (x.f6, (x.f7, (x.f8, (x.f9, (x.f10, (x.f11, x.f12)))))))) (c0 := [.int .i64 x.f4]) (c1 := [.string x.f5, .bool x.f6, .int .i64 x.f7, .int .i64 x.f8, v0, v1, v2, .string x.f12]) hd rfl (pair_app (a := Zd.string) (b := (Zd.pair Zd.bool (Zd.pair (Zd.int .i64) (Zd.pair (Zd.int .i64) (Zd.pair (Zd.slice 3 (Zd.int .i64)) (Zd.pair (Zd.slice 9 Zd.string) (Zd.pair (Zd.slice 9 Zd.string) Zd.string))))))) (w := w) (S := S) (js1 := []) (js2 := [j0, j1, j2]) (x := x.f5) (y := (x.f6, (x.f7, (x.f8, (x.f9, (x.f10, (x.f11, x.f12))))))) (c0 := [.string x.f5]) (c1 := [.bool x.f6, .int .i64 x.f7, .int .i64 x.f8, v0, v1, v2, .string x.f12]) hd rfl (pair_app (a := Zd.bool) (b := (Zd.pair (Zd.int .i64) (Zd.pair (Zd.int .i64) (Zd.pair (Zd.slice 3 (Zd.int .i64)) (Zd.pair (Zd.slice 9 Zd.string) (Zd.pair (Zd.slice 9 Zd.string) Zd.string)))))) (w := w) (S := S) (js1 := []) (js2 := [j0, j1, j2]) (x := x.f6) (y := (x.f7, (x.f8, (x.f9, (x.f10, (x.f11, x.f12)))))) (c0 := [.bool x.f6]) (c1 := [.int .i64 x.f7, .int .i64 x.f8, v0, v1, v2, .string x.f12]) hd rfl (pair_app (a := (Zd.int .i64)) (b := (Zd.pair (Zd.int .i64) (Zd.pair (Zd.slice 3 (Zd.int .i64)) (Zd.pair (Zd.slice 9 Zd.string) (Zd.pair (Zd.slice 9 Zd.string) Zd.string))))) (w := w) (S := S) (js1 := []) (js2 := [j0, j1, j2]) (x := x.f7) (y := (x.f8, (x.f9, (x.f10, (x.f11, x.f12))))) (c0 := [.int .i64 x.f7]) (c1 := [.int .i64 x.f8, v0, v1, v2, .string x.f12]) hd rfl (pair_app (a := (Zd.int .i64)) (b := (Zd.pair (Zd.slice 3 (Zd.int .i64)) (Zd.pair (Zd.slice 9 Zd.string) (Zd.pair (Zd.slice 9 Zd.string) Zd.string)))) (w := w) (S := S) (js1 := []) (js2 := [j0, j1, j2]) (x := x.f8) (y := (x.f9, (x.f10, (x.f11, x.f12)))) (c0 := [.int .i64 x.f8]) (c1 := [v0, v1, v2, .string x.f12]) hd rfl (pair_app (a := (Zd.slice 3 (Zd.int .i64))) (b := (Zd.pair (Zd.slice 9 Zd.string) (Zd.pair (Zd.slice 9 Zd.string) Zd.string))) (w := w) (S := S) (js1 := [j0]) (js2 := [j1, j2]) (x := x.f9) (y := (x.f10, (x.f11, x.f12))) (c0 := [v0]) (c1 := [v1, v2, .string x.f12]) hd (made_one h0) (pair_app (a := (Zd.slice 9 Zd.string)) (b := (Zd.pair (Zd.slice 9 Zd.string) Zd.string)) (w := w) (S := S) (js1 := [j1]) (js2 := [j2]) (x := x.f10) (y := (x.f11, x.f12)) (c0 := [v1]) (c1 := [v2, .string x.f12]) hd (made_one h1) (pair_app (a := (Zd.slice 9 Zd.string)) (b := Zd.string) (w := w) (S := S) (js1 := [j2]) (js2 := []) (x := x.f11) (y := x.f12) (c0 := [v2]) (c1 := [.string x.f12]) hd (made_one h2) rfl (nod_drop 2 hn)) (nod_drop 1 hn)) hn) hn) hn) hn) hn) hn) hn) hn) hn) hn))
theorem q230_zero (w : World) (S : FP) : q230.M w S z230 [.int .i64 0, .int .i64 0] := made_none (a := q230) ((pair_app (a := (Zd.int .i64)) (b := (Zd.int .i64)) (w := w) (S := (fun (_ : Nat) (_ : Nat) => False)) (js1 := []) (js2 := []) (x := z230.f0) (y := z230.f1) (c0 := [.int .i64 0]) (c1 := [.int .i64 0]) hd_none rfl rfl List.nodup_nil))
theorem q230_flat (w : World) (S : FP) (x : S230) : q230.M w S x [.int .i64 x.f0, .int .i64 x.f1] := made_none (a := q230) ((pair_app (a := (Zd.int .i64)) (b := (Zd.int .i64)) (w := w) (S := (fun (_ : Nat) (_ : Nat) => False)) (js1 := []) (js2 := []) (x := x.f0) (y := x.f1) (c0 := [.int .i64 x.f0]) (c1 := [.int .i64 x.f1]) hd_none rfl rfl List.nodup_nil))
theorem q190_zero (w : World) (S : FP) : q190.M w S z190 [.string (⟨#[]⟩ : ByteArray), .int .i64 0, .int .i64 0, .int .i64 0, .int .i64 0, .slice none 0 0, .string (⟨#[]⟩ : ByteArray)] := made_none (a := q190) ((pair_app (a := Zd.string) (b := (Zd.pair (Zd.int .i64) (Zd.pair (Zd.int .i64) (Zd.pair (Zd.int .i64) (Zd.pair (Zd.int .i64) (Zd.pair (Zd.slice 230 q230) Zd.string)))))) (w := w) (S := (fun (_ : Nat) (_ : Nat) => False)) (js1 := []) (js2 := []) (x := z190.f0) (y := (z190.f1, (z190.f2, (z190.f3, (z190.f4, (z190.f5, z190.f6)))))) (c0 := [.string (⟨#[]⟩ : ByteArray)]) (c1 := [.int .i64 0, .int .i64 0, .int .i64 0, .int .i64 0, .slice none 0 0, .string (⟨#[]⟩ : ByteArray)]) hd_none rfl (pair_app (a := (Zd.int .i64)) (b := (Zd.pair (Zd.int .i64) (Zd.pair (Zd.int .i64) (Zd.pair (Zd.int .i64) (Zd.pair (Zd.slice 230 q230) Zd.string))))) (w := w) (S := (fun (_ : Nat) (_ : Nat) => False)) (js1 := []) (js2 := []) (x := z190.f1) (y := (z190.f2, (z190.f3, (z190.f4, (z190.f5, z190.f6))))) (c0 := [.int .i64 0]) (c1 := [.int .i64 0, .int .i64 0, .int .i64 0, .slice none 0 0, .string (⟨#[]⟩ : ByteArray)]) hd_none rfl (pair_app (a := (Zd.int .i64)) (b := (Zd.pair (Zd.int .i64) (Zd.pair (Zd.int .i64) (Zd.pair (Zd.slice 230 q230) Zd.string)))) (w := w) (S := (fun (_ : Nat) (_ : Nat) => False)) (js1 := []) (js2 := []) (x := z190.f2) (y := (z190.f3, (z190.f4, (z190.f5, z190.f6)))) (c0 := [.int .i64 0]) (c1 := [.int .i64 0, .int .i64 0, .slice none 0 0, .string (⟨#[]⟩ : ByteArray)]) hd_none rfl (pair_app (a := (Zd.int .i64)) (b := (Zd.pair (Zd.int .i64) (Zd.pair (Zd.slice 230 q230) Zd.string))) (w := w) (S := (fun (_ : Nat) (_ : Nat) => False)) (js1 := []) (js2 := []) (x := z190.f3) (y := (z190.f4, (z190.f5, z190.f6))) (c0 := [.int .i64 0]) (c1 := [.int .i64 0, .slice none 0 0, .string (⟨#[]⟩ : ByteArray)]) hd_none rfl (pair_app (a := (Zd.int .i64)) (b := (Zd.pair (Zd.slice 230 q230) Zd.string)) (w := w) (S := (fun (_ : Nat) (_ : Nat) => False)) (js1 := []) (js2 := []) (x := z190.f4) (y := (z190.f5, z190.f6)) (c0 := [.int .i64 0]) (c1 := [.slice none 0 0, .string (⟨#[]⟩ : ByteArray)]) hd_none rfl (pair_app (a := (Zd.slice 230 q230)) (b := Zd.string) (w := w) (S := (fun (_ : Nat) (_ : Nat) => False)) (js1 := []) (js2 := []) (x := z190.f5) (y := z190.f6) (c0 := [.slice none 0 0]) (c1 := [.string (⟨#[]⟩ : ByteArray)]) hd_none row_none rfl List.nodup_nil) List.nodup_nil) List.nodup_nil) List.nodup_nil) List.nodup_nil) List.nodup_nil))
theorem q190_pack {w : World} {S : Nat → FP} {x : S190} {v0 : Value} {j0 : Nat} (hd : ∀ i j k, i ≠ j → S i k → ¬ S j k) (h0 : (Zd.slice 230 q230).M w (S j0) x.f5 [v0]) (hn : [j0].Nodup) : q190.M w (fun k => ∃ i, i ∈ [j0] ∧ S i k) x [.string x.f0, .int .i64 x.f1, .int .i64 x.f2, .int .i64 x.f3, .int .i64 x.f4, v0, .string x.f6] := ((pair_app (a := Zd.string) (b := (Zd.pair (Zd.int .i64) (Zd.pair (Zd.int .i64) (Zd.pair (Zd.int .i64) (Zd.pair (Zd.int .i64) (Zd.pair (Zd.slice 230 q230) Zd.string)))))) (w := w) (S := S) (js1 := []) (js2 := [j0]) (x := x.f0) (y := (x.f1, (x.f2, (x.f3, (x.f4, (x.f5, x.f6)))))) (c0 := [.string x.f0]) (c1 := [.int .i64 x.f1, .int .i64 x.f2, .int .i64 x.f3, .int .i64 x.f4, v0, .string x.f6]) hd rfl (pair_app (a := (Zd.int .i64)) (b := (Zd.pair (Zd.int .i64) (Zd.pair (Zd.int .i64) (Zd.pair (Zd.int .i64) (Zd.pair (Zd.slice 230 q230) Zd.string))))) (w := w) (S := S) (js1 := []) (js2 := [j0]) (x := x.f1) (y := (x.f2, (x.f3, (x.f4, (x.f5, x.f6))))) (c0 := [.int .i64 x.f1]) (c1 := [.int .i64 x.f2, .int .i64 x.f3, .int .i64 x.f4, v0, .string x.f6]) hd rfl (pair_app (a := (Zd.int .i64)) (b := (Zd.pair (Zd.int .i64) (Zd.pair (Zd.int .i64) (Zd.pair (Zd.slice 230 q230) Zd.string)))) (w := w) (S := S) (js1 := []) (js2 := [j0]) (x := x.f2) (y := (x.f3, (x.f4, (x.f5, x.f6)))) (c0 := [.int .i64 x.f2]) (c1 := [.int .i64 x.f3, .int .i64 x.f4, v0, .string x.f6]) hd rfl (pair_app (a := (Zd.int .i64)) (b := (Zd.pair (Zd.int .i64) (Zd.pair (Zd.slice 230 q230) Zd.string))) (w := w) (S := S) (js1 := []) (js2 := [j0]) (x := x.f3) (y := (x.f4, (x.f5, x.f6))) (c0 := [.int .i64 x.f3]) (c1 := [.int .i64 x.f4, v0, .string x.f6]) hd rfl (pair_app (a := (Zd.int .i64)) (b := (Zd.pair (Zd.slice 230 q230) Zd.string)) (w := w) (S := S) (js1 := []) (js2 := [j0]) (x := x.f4) (y := (x.f5, x.f6)) (c0 := [.int .i64 x.f4]) (c1 := [v0, .string x.f6]) hd rfl (pair_app (a := (Zd.slice 230 q230)) (b := Zd.string) (w := w) (S := S) (js1 := [j0]) (js2 := []) (x := x.f5) (y := x.f6) (c0 := [v0]) (c1 := [.string x.f6]) hd (made_one h0) rfl hn) hn) hn) hn) hn) hn))
theorem q128_zero (w : World) (S : FP) : q128.M w S z128 [.string (⟨#[]⟩ : ByteArray), .string (⟨#[]⟩ : ByteArray)] := made_none (a := q128) ((pair_app (a := Zd.string) (b := Zd.string) (w := w) (S := (fun (_ : Nat) (_ : Nat) => False)) (js1 := []) (js2 := []) (x := z128.f0) (y := z128.f1) (c0 := [.string (⟨#[]⟩ : ByteArray)]) (c1 := [.string (⟨#[]⟩ : ByteArray)]) hd_none rfl rfl List.nodup_nil))
theorem q128_flat (w : World) (S : FP) (x : S128) : q128.M w S x [.string x.f0, .string x.f1] := made_none (a := q128) ((pair_app (a := Zd.string) (b := Zd.string) (w := w) (S := (fun (_ : Nat) (_ : Nat) => False)) (js1 := []) (js2 := []) (x := x.f0) (y := x.f1) (c0 := [.string x.f0]) (c1 := [.string x.f1]) hd_none rfl rfl List.nodup_nil))
end Go.Proofs.Ytoaoncnbimcdgaa.F
