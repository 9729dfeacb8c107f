import Derived.Test.YtacocpknielofaaGreatDoorProg
import Derived.Test.YtacocpknielofaaGreatDoorZLib
namespace Go.Proofs.YtacocpknielofaaGreatDoor.F
open Go.RowKit Go.Proofs.YtacocpknielofaaGreatDoorW.PrintWords Go.Proofs.YtacocpknielofaaGreatDoorW.PrintLast Go.Proofs.YtacocpknielofaaGreatDoorW.PrintMore Go.Proofs.YtacocpknielofaaGreatDoor.Z
attribute [local go_sem] max2_int min2_int max_two min_two max_three min_three max_four min_four
set_option linter.unusedVariables false
set_option linter.unusedSimpArgs false
set_option maxRecDepth 100000
/-! #### struct type 88 -/
structure S88 where
  f0 : Int
  f1 : ByteArray
  f2 : ByteArray
  f3 : Int
  f4 : Int
  f5 : ByteArray
  f6 : Bool
  f7 : Int
  f8 : Int
  f9 : (List Int)
  f10 : (List ByteArray)
  f11 : (List ByteArray)
  f12 : ByteArray
def z88 : S88 := ⟨(0 : Int), (⟨#[]⟩ : ByteArray), (⟨#[]⟩ : ByteArray), (0 : Int), (0 : Int), (⟨#[]⟩ : ByteArray), false, (0 : Int), (0 : Int), ([] : List Int), ([] : List ByteArray), ([] : List ByteArray), (⟨#[]⟩ : ByteArray)⟩
def k88 : Kd S88 := Kd.iso (Kd.pair (Kd.int .i64) (Kd.pair Kd.string (Kd.pair Kd.string (Kd.pair (Kd.int .i64) (Kd.pair (Kd.int .i64) (Kd.pair Kd.string (Kd.pair Kd.bool (Kd.pair (Kd.int .i64) (Kd.pair (Kd.int .i64) (Kd.pair (Kd.slice 3 (Kd.int .i64)) (Kd.pair (Kd.slice 9 Kd.string) (Kd.pair (Kd.slice 9 Kd.string) Kd.string)))))))))))) (fun x : S88 => (x.f0, x.f1, x.f2, x.f3, x.f4, x.f5, x.f6, x.f7, x.f8, x.f9, x.f10, x.f11, x.f12))
theorem k88_open {w : World} {x : S88} {cs : List Value} (h : k88.K w x cs) : ∃ A9 c9 A10 c10 A11 c11, cs = [.int .i64 x.f0, .string x.f1, .string x.f2, .int .i64 x.f3, .int .i64 x.f4, .string x.f5, .bool x.f6, .int .i64 x.f7, .int .i64 x.f8, .slice A9 x.f9.length c9, .slice A10 x.f10.length c10, .slice A11 x.f11.length c11, .string x.f12] ∧ x.f9.length ≤ c9 ∧ (Kd.int .i64).C w A9 x.f9.length x.f9 ∧ x.f10.length ≤ c10 ∧ Kd.string.C w A10 x.f10.length x.f10 ∧ x.f11.length ≤ c11 ∧ Kd.string.C w A11 x.f11.length x.f11 := by
  obtain ⟨_, _, rfl, rfl, ⟨_, _, rfl, rfl, ⟨_, _, rfl, rfl, ⟨_, _, rfl, rfl, ⟨_, _, rfl, rfl, ⟨_, _, rfl, rfl, ⟨_, _, rfl, rfl, ⟨_, _, rfl, rfl, ⟨_, _, rfl, rfl, ⟨_, _, rfl, ⟨A9, c9, rfl, l9, g9⟩, ⟨_, _, rfl, ⟨A10, c10, rfl, l10, g10⟩, ⟨_, _, rfl, ⟨A11, c11, rfl, l11, g11⟩, rfl⟩⟩⟩⟩⟩⟩⟩⟩⟩⟩⟩⟩ := h
  exact ⟨A9, c9, A10, c10, A11, c11, rfl, l9, g9, l10, g10, l11, g11⟩
def rd_T88 (xs : List S88) (i : Int) : S88 := xs.getD i.toNat z88
theorem at_T88 {w : World} {A : Option Addr} {n : Nat} {xs : List S88} (h : Kd.C k88 w A n xs) (i : Int) (h0 : 0 ≤ i) (h1 : i < n) : ∃ ad A9 c9 A10 c10 A11 c11, A = some ad ∧ w.cell? (ad.add (i.toNat * 13)) = some (.int .i64 (rd_T88 xs i).f0) ∧ w.cell? ⟨(ad.add (i.toNat * 13)).block, (ad.add (i.toNat * 13)).off + 1, none⟩ = some (.string (rd_T88 xs i).f1) ∧ w.cell? ⟨(ad.add (i.toNat * 13)).block, (ad.add (i.toNat * 13)).off + 2, none⟩ = some (.string (rd_T88 xs i).f2) ∧ w.cell? ⟨(ad.add (i.toNat * 13)).block, (ad.add (i.toNat * 13)).off + 3, none⟩ = some (.int .i64 (rd_T88 xs i).f3) ∧ w.cell? ⟨(ad.add (i.toNat * 13)).block, (ad.add (i.toNat * 13)).off + 4, none⟩ = some (.int .i64 (rd_T88 xs i).f4) ∧ w.cell? ⟨(ad.add (i.toNat * 13)).block, (ad.add (i.toNat * 13)).off + 5, none⟩ = some (.string (rd_T88 xs i).f5) ∧ w.cell? ⟨(ad.add (i.toNat * 13)).block, (ad.add (i.toNat * 13)).off + 6, none⟩ = some (.bool (rd_T88 xs i).f6) ∧ w.cell? ⟨(ad.add (i.toNat * 13)).block, (ad.add (i.toNat * 13)).off + 7, none⟩ = some (.int .i64 (rd_T88 xs i).f7) ∧ w.cell? ⟨(ad.add (i.toNat * 13)).block, (ad.add (i.toNat * 13)).off + 8, none⟩ = some (.int .i64 (rd_T88 xs i).f8) ∧ w.cell? ⟨(ad.add (i.toNat * 13)).block, (ad.add (i.toNat * 13)).off + 9, none⟩ = some (.slice A9 (rd_T88 xs i).f9.length c9) ∧ w.cell? ⟨(ad.add (i.toNat * 13)).block, (ad.add (i.toNat * 13)).off + 10, none⟩ = some (.slice A10 (rd_T88 xs i).f10.length c10) ∧ w.cell? ⟨(ad.add (i.toNat * 13)).block, (ad.add (i.toNat * 13)).off + 11, none⟩ = some (.slice A11 (rd_T88 xs i).f11.length c11) ∧ w.cell? ⟨(ad.add (i.toNat * 13)).block, (ad.add (i.toNat * 13)).off + 12, none⟩ = some (.string (rd_T88 xs i).f12) ∧ (rd_T88 xs i).f9.length ≤ c9 ∧ (Kd.int .i64).C w A9 (rd_T88 xs i).f9.length (rd_T88 xs i).f9 ∧ (rd_T88 xs i).f10.length ≤ c10 ∧ Kd.string.C w A10 (rd_T88 xs i).f10.length (rd_T88 xs i).f10 ∧ (rd_T88 xs i).f11.length ≤ c11 ∧ Kd.string.C w A11 (rd_T88 xs i).f11.length (rd_T88 xs i).f11 := by
  obtain ⟨ad, c, e, _, hK, hc0⟩ := Kd.C_get h z88 i h0 h1
  have hc : ∀ j u, c[j]? = some u → w.cell? (ad.add (i.toNat * 13 + j)) = some u := hc0
  obtain ⟨A9, c9, A10, c10, A11, c11, rfl, l9, g9, l10, g10, l11, g11⟩ := k88_open hK
  exact ⟨ad, A9, c9, A10, c10, A11, c11, e, hc 0 _ rfl, by rw [← add_field _ _ 1 (by omega)]; exact hc 1 _ rfl, by rw [← add_field _ _ 2 (by omega)]; exact hc 2 _ rfl, by rw [← add_field _ _ 3 (by omega)]; exact hc 3 _ rfl, by rw [← add_field _ _ 4 (by omega)]; exact hc 4 _ rfl, by rw [← add_field _ _ 5 (by omega)]; exact hc 5 _ rfl, by rw [← add_field _ _ 6 (by omega)]; exact hc 6 _ rfl, by rw [← add_field _ _ 7 (by omega)]; exact hc 7 _ rfl, by rw [← add_field _ _ 8 (by omega)]; exact hc 8 _ rfl, by rw [← add_field _ _ 9 (by omega)]; exact hc 9 _ rfl, by rw [← add_field _ _ 10 (by omega)]; exact hc 10 _ rfl, by rw [← add_field _ _ 11 (by omega)]; exact hc 11 _ rfl, by rw [← add_field _ _ 12 (by omega)]; exact hc 12 _ rfl, l9, g9, l10, g10, l11, g11⟩

/-! #### struct type 240 -/
structure S240 where
  f0 : Int
  f1 : Int
def z240 : S240 := ⟨(0 : Int), (0 : Int)⟩
def k240 : Kd S240 := Kd.iso (Kd.pair (Kd.int .i64) (Kd.int .i64)) (fun x : S240 => (x.f0, x.f1))
theorem k240_open {w : World} {x : S240} {cs : List Value} (h : k240.K w x cs) : cs = [.int .i64 x.f0, .int .i64 x.f1] := by
  obtain ⟨_, _, rfl, rfl, rfl⟩ := h
  exact rfl
def rd_T240 (xs : List S240) (i : Int) : S240 := xs.getD i.toNat z240
theorem at_T240 {w : World} {A : Option Addr} {n : Nat} {xs : List S240} (h : Kd.C k240 w A n xs) (i : Int) (h0 : 0 ≤ i) (h1 : i < n) : ∃ ad , A = some ad ∧ w.cell? (ad.add (i.toNat * 2)) = some (.int .i64 (rd_T240 xs i).f0) ∧ w.cell? ⟨(ad.add (i.toNat * 2)).block, (ad.add (i.toNat * 2)).off + 1, none⟩ = some (.int .i64 (rd_T240 xs i).f1) := by
  obtain ⟨ad, c, e, _, hK, hc0⟩ := Kd.C_get h z240 i h0 h1
  have hc : ∀ j u, c[j]? = some u → w.cell? (ad.add (i.toNat * 2 + j)) = some u := hc0
  obtain rfl := k240_open hK
  exact ⟨ad, e, hc 0 _ rfl, by rw [← add_field _ _ 1 (by omega)]; exact hc 1 _ rfl⟩

/-! #### struct type 75 -/
structure S75 where
  f0 : ByteArray
  f1 : Int
  f2 : Int
  f3 : Int
  f4 : Int
  f5 : (List S240)
  f6 : ByteArray
def z75 : S75 := ⟨(⟨#[]⟩ : ByteArray), (0 : Int), (0 : Int), (0 : Int), (0 : Int), ([] : List S240), (⟨#[]⟩ : ByteArray)⟩
def k75 : Kd S75 := Kd.iso (Kd.pair Kd.string (Kd.pair (Kd.int .i64) (Kd.pair (Kd.int .i64) (Kd.pair (Kd.int .i64) (Kd.pair (Kd.int .i64) (Kd.pair (Kd.slice 240 k240) Kd.string)))))) (fun x : S75 => (x.f0, x.f1, x.f2, x.f3, x.f4, x.f5, x.f6))
theorem k75_open {w : World} {x : S75} {cs : List Value} (h : k75.K w x cs) : ∃ A5 c5, cs = [.string x.f0, .int .i64 x.f1, .int .i64 x.f2, .int .i64 x.f3, .int .i64 x.f4, .slice A5 x.f5.length c5, .string x.f6] ∧ x.f5.length ≤ c5 ∧ k240.C w A5 x.f5.length x.f5 := by
  obtain ⟨_, _, rfl, rfl, ⟨_, _, rfl, rfl, ⟨_, _, rfl, rfl, ⟨_, _, rfl, rfl, ⟨_, _, rfl, rfl, ⟨_, _, rfl, ⟨A5, c5, rfl, l5, g5⟩, rfl⟩⟩⟩⟩⟩⟩ := h
  exact ⟨A5, c5, rfl, l5, g5⟩
def rd_T75 (xs : List S75) (i : Int) : S75 := xs.getD i.toNat z75
theorem at_T75 {w : World} {A : Option Addr} {n : Nat} {xs : List S75} (h : Kd.C k75 w A n xs) (i : Int) (h0 : 0 ≤ i) (h1 : i < n) : ∃ ad A5 c5, A = some ad ∧ w.cell? (ad.add (i.toNat * 7)) = some (.string (rd_T75 xs i).f0) ∧ w.cell? ⟨(ad.add (i.toNat * 7)).block, (ad.add (i.toNat * 7)).off + 1, none⟩ = some (.int .i64 (rd_T75 xs i).f1) ∧ w.cell? ⟨(ad.add (i.toNat * 7)).block, (ad.add (i.toNat * 7)).off + 2, none⟩ = some (.int .i64 (rd_T75 xs i).f2) ∧ w.cell? ⟨(ad.add (i.toNat * 7)).block, (ad.add (i.toNat * 7)).off + 3, none⟩ = some (.int .i64 (rd_T75 xs i).f3) ∧ w.cell? ⟨(ad.add (i.toNat * 7)).block, (ad.add (i.toNat * 7)).off + 4, none⟩ = some (.int .i64 (rd_T75 xs i).f4) ∧ w.cell? ⟨(ad.add (i.toNat * 7)).block, (ad.add (i.toNat * 7)).off + 5, none⟩ = some (.slice A5 (rd_T75 xs i).f5.length c5) ∧ w.cell? ⟨(ad.add (i.toNat * 7)).block, (ad.add (i.toNat * 7)).off + 6, none⟩ = some (.string (rd_T75 xs i).f6) ∧ (rd_T75 xs i).f5.length ≤ c5 ∧ k240.C w A5 (rd_T75 xs i).f5.length (rd_T75 xs i).f5 := by
  obtain ⟨ad, c, e, _, hK, hc0⟩ := Kd.C_get h z75 i h0 h1
  have hc : ∀ j u, c[j]? = some u → w.cell? (ad.add (i.toNat * 7 + j)) = some u := hc0
  obtain ⟨A5, c5, rfl, l5, g5⟩ := k75_open hK
  exact ⟨ad, A5, c5, e, hc 0 _ rfl, by rw [← add_field _ _ 1 (by omega)]; exact hc 1 _ rfl, by rw [← add_field _ _ 2 (by omega)]; exact hc 2 _ rfl, by rw [← add_field _ _ 3 (by omega)]; exact hc 3 _ rfl, by rw [← add_field _ _ 4 (by omega)]; exact hc 4 _ rfl, by rw [← add_field _ _ 5 (by omega)]; exact hc 5 _ rfl, by rw [← add_field _ _ 6 (by omega)]; exact hc 6 _ rfl, l5, g5⟩

/-! #### struct type 178 -/
structure S178 where
  f0 : ByteArray
  f1 : ByteArray
def z178 : S178 := ⟨(⟨#[]⟩ : ByteArray), (⟨#[]⟩ : ByteArray)⟩
def k178 : Kd S178 := Kd.iso (Kd.pair Kd.string Kd.string) (fun x : S178 => (x.f0, x.f1))
theorem k178_open {w : World} {x : S178} {cs : List Value} (h : k178.K w x cs) : cs = [.string x.f0, .string x.f1] := by
  obtain ⟨_, _, rfl, rfl, rfl⟩ := h
  exact rfl
def rd_T178 (xs : List S178) (i : Int) : S178 := xs.getD i.toNat z178
theorem at_T178 {w : World} {A : Option Addr} {n : Nat} {xs : List S178} (h : Kd.C k178 w A n xs) (i : Int) (h0 : 0 ≤ i) (h1 : i < n) : ∃ ad , A = some ad ∧ w.cell? (ad.add (i.toNat * 2)) = some (.string (rd_T178 xs i).f0) ∧ w.cell? ⟨(ad.add (i.toNat * 2)).block, (ad.add (i.toNat * 2)).off + 1, none⟩ = some (.string (rd_T178 xs i).f1) := by
  obtain ⟨ad, c, e, _, hK, hc0⟩ := Kd.C_get h z178 i h0 h1
  have hc : ∀ j u, c[j]? = some u → w.cell? (ad.add (i.toNat * 2 + j)) = some u := hc0
  obtain rfl := k178_open hK
  exact ⟨ad, e, hc 0 _ rfl, by rw [← add_field _ _ 1 (by omega)]; exact hc 1 _ rfl⟩

/-! #### struct type 26 -/
structure S26 where
  f0 : (List S88)
  f1 : (List S75)
  f2 : (List S178)
def k26 : Kd S26 := Kd.iso (Kd.pair (Kd.slice 88 k88) (Kd.pair (Kd.slice 75 k75) (Kd.slice 178 k178))) (fun x : S26 => (x.f0, x.f1, x.f2))
/-! #### struct type 91 -/
structure S91 where
  f0 : Int
  f1 : ByteArray
  f2 : ByteArray
  f3 : Int
  f4 : Int
  f5 : ByteArray
  f6 : Bool
  f7 : Int
  f8 : Int
  f9 : (List Int)
  f10 : (List ByteArray)
  f11 : (List ByteArray)
  f12 : ByteArray
def z91 : S91 := ⟨(0 : Int), (⟨#[]⟩ : ByteArray), (⟨#[]⟩ : ByteArray), (0 : Int), (0 : Int), (⟨#[]⟩ : ByteArray), false, (0 : Int), (0 : Int), ([] : List Int), ([] : List ByteArray), ([] : List ByteArray), (⟨#[]⟩ : ByteArray)⟩
def k91 : Kd S91 := Kd.iso (Kd.pair (Kd.int .i64) (Kd.pair Kd.string (Kd.pair Kd.string (Kd.pair (Kd.int .i64) (Kd.pair (Kd.int .i64) (Kd.pair Kd.string (Kd.pair Kd.bool (Kd.pair (Kd.int .i64) (Kd.pair (Kd.int .i64) (Kd.pair (Kd.slice 3 (Kd.int .i64)) (Kd.pair (Kd.slice 9 Kd.string) (Kd.pair (Kd.slice 9 Kd.string) Kd.string)))))))))))) (fun x : S91 => (x.f0, x.f1, x.f2, x.f3, x.f4, x.f5, x.f6, x.f7, x.f8, x.f9, x.f10, x.f11, x.f12))
theorem k91_open {w : World} {x : S91} {cs : List Value} (h : k91.K w x cs) : ∃ A9 c9 A10 c10 A11 c11, cs = [.int .i64 x.f0, .string x.f1, .string x.f2, .int .i64 x.f3, .int .i64 x.f4, .string x.f5, .bool x.f6, .int .i64 x.f7, .int .i64 x.f8, .slice A9 x.f9.length c9, .slice A10 x.f10.length c10, .slice A11 x.f11.length c11, .string x.f12] ∧ x.f9.length ≤ c9 ∧ (Kd.int .i64).C w A9 x.f9.length x.f9 ∧ x.f10.length ≤ c10 ∧ Kd.string.C w A10 x.f10.length x.f10 ∧ x.f11.length ≤ c11 ∧ Kd.string.C w A11 x.f11.length x.f11 := by
  obtain ⟨_, _, rfl, rfl, ⟨_, _, rfl, rfl, ⟨_, _, rfl, rfl, ⟨_, _, rfl, rfl, ⟨_, _, rfl, rfl, ⟨_, _, rfl, rfl, ⟨_, _, rfl, rfl, ⟨_, _, rfl, rfl, ⟨_, _, rfl, rfl, ⟨_, _, rfl, ⟨A9, c9, rfl, l9, g9⟩, ⟨_, _, rfl, ⟨A10, c10, rfl, l10, g10⟩, ⟨_, _, rfl, ⟨A11, c11, rfl, l11, g11⟩, rfl⟩⟩⟩⟩⟩⟩⟩⟩⟩⟩⟩⟩ := h
  exact ⟨A9, c9, A10, c10, A11, c11, rfl, l9, g9, l10, g10, l11, g11⟩
def rd_T91 (xs : List S91) (i : Int) : S91 := xs.getD i.toNat z91
theorem at_T91 {w : World} {A : Option Addr} {n : Nat} {xs : List S91} (h : Kd.C k91 w A n xs) (i : Int) (h0 : 0 ≤ i) (h1 : i < n) : ∃ ad A9 c9 A10 c10 A11 c11, A = some ad ∧ w.cell? (ad.add (i.toNat * 13)) = some (.int .i64 (rd_T91 xs i).f0) ∧ w.cell? ⟨(ad.add (i.toNat * 13)).block, (ad.add (i.toNat * 13)).off + 1, none⟩ = some (.string (rd_T91 xs i).f1) ∧ w.cell? ⟨(ad.add (i.toNat * 13)).block, (ad.add (i.toNat * 13)).off + 2, none⟩ = some (.string (rd_T91 xs i).f2) ∧ w.cell? ⟨(ad.add (i.toNat * 13)).block, (ad.add (i.toNat * 13)).off + 3, none⟩ = some (.int .i64 (rd_T91 xs i).f3) ∧ w.cell? ⟨(ad.add (i.toNat * 13)).block, (ad.add (i.toNat * 13)).off + 4, none⟩ = some (.int .i64 (rd_T91 xs i).f4) ∧ w.cell? ⟨(ad.add (i.toNat * 13)).block, (ad.add (i.toNat * 13)).off + 5, none⟩ = some (.string (rd_T91 xs i).f5) ∧ w.cell? ⟨(ad.add (i.toNat * 13)).block, (ad.add (i.toNat * 13)).off + 6, none⟩ = some (.bool (rd_T91 xs i).f6) ∧ w.cell? ⟨(ad.add (i.toNat * 13)).block, (ad.add (i.toNat * 13)).off + 7, none⟩ = some (.int .i64 (rd_T91 xs i).f7) ∧ w.cell? ⟨(ad.add (i.toNat * 13)).block, (ad.add (i.toNat * 13)).off + 8, none⟩ = some (.int .i64 (rd_T91 xs i).f8) ∧ w.cell? ⟨(ad.add (i.toNat * 13)).block, (ad.add (i.toNat * 13)).off + 9, none⟩ = some (.slice A9 (rd_T91 xs i).f9.length c9) ∧ w.cell? ⟨(ad.add (i.toNat * 13)).block, (ad.add (i.toNat * 13)).off + 10, none⟩ = some (.slice A10 (rd_T91 xs i).f10.length c10) ∧ w.cell? ⟨(ad.add (i.toNat * 13)).block, (ad.add (i.toNat * 13)).off + 11, none⟩ = some (.slice A11 (rd_T91 xs i).f11.length c11) ∧ w.cell? ⟨(ad.add (i.toNat * 13)).block, (ad.add (i.toNat * 13)).off + 12, none⟩ = some (.string (rd_T91 xs i).f12) ∧ (rd_T91 xs i).f9.length ≤ c9 ∧ (Kd.int .i64).C w A9 (rd_T91 xs i).f9.length (rd_T91 xs i).f9 ∧ (rd_T91 xs i).f10.length ≤ c10 ∧ Kd.string.C w A10 (rd_T91 xs i).f10.length (rd_T91 xs i).f10 ∧ (rd_T91 xs i).f11.length ≤ c11 ∧ Kd.string.C w A11 (rd_T91 xs i).f11.length (rd_T91 xs i).f11 := by
  obtain ⟨ad, c, e, _, hK, hc0⟩ := Kd.C_get h z91 i h0 h1
  have hc : ∀ j u, c[j]? = some u → w.cell? (ad.add (i.toNat * 13 + j)) = some u := hc0
  obtain ⟨A9, c9, A10, c10, A11, c11, rfl, l9, g9, l10, g10, l11, g11⟩ := k91_open hK
  exact ⟨ad, A9, c9, A10, c10, A11, c11, e, hc 0 _ rfl, by rw [← add_field _ _ 1 (by omega)]; exact hc 1 _ rfl, by rw [← add_field _ _ 2 (by omega)]; exact hc 2 _ rfl, by rw [← add_field _ _ 3 (by omega)]; exact hc 3 _ rfl, by rw [← add_field _ _ 4 (by omega)]; exact hc 4 _ rfl, by rw [← add_field _ _ 5 (by omega)]; exact hc 5 _ rfl, by rw [← add_field _ _ 6 (by omega)]; exact hc 6 _ rfl, by rw [← add_field _ _ 7 (by omega)]; exact hc 7 _ rfl, by rw [← add_field _ _ 8 (by omega)]; exact hc 8 _ rfl, by rw [← add_field _ _ 9 (by omega)]; exact hc 9 _ rfl, by rw [← add_field _ _ 10 (by omega)]; exact hc 10 _ rfl, by rw [← add_field _ _ 11 (by omega)]; exact hc 11 _ rfl, by rw [← add_field _ _ 12 (by omega)]; exact hc 12 _ rfl, l9, g9, l10, g10, l11, g11⟩

/-! #### struct type 182, nested in itself -/
structure S182 where
  f0 : Int
  f1 : ByteArray
  f2 : (List S182)
def z182 : S182 := ⟨(0 : Int), (⟨#[]⟩ : ByteArray), ([] : List S182)⟩
def F182 (d : Kd S182) : Kd S182 := Kd.iso (Kd.pair (Kd.int .i64) (Kd.pair Kd.string (Kd.slice 182 d))) (fun x : S182 => (x.f0, x.f1, x.f2))
theorem mono182 : Kd.Mono F182 := Kd.mono_iso _ (Kd.mono_pair (Kd.mono_const _) (Kd.mono_pair (Kd.mono_const _) (Kd.mono_slice 182 Kd.mono_id)))
theorem sub182 : Kd.Sub F182 [182] := Kd.sub_iso _ (Kd.sub_pair (Kd.sub_const _ (by decide)) (Kd.sub_pair (Kd.sub_const _ (by decide)) (Kd.sub_slice 182 (by decide) Kd.sub_id)))
theorem sz182 : ∀ n, (Kd.upto F182 3 [182] n).sz = 3 := Kd.upto_sz (fun _ => rfl)
def k182 : Kd S182 := Kd.fix F182 3 [182] sz182 (Kd.upto_E sub182)
theorem k182_open {w : World} {x : S182} {cs : List Value} (h : k182.K w x cs) : ∃ A2 c2, cs = [.int .i64 x.f0, .string x.f1, .slice A2 x.f2.length c2] ∧ x.f2.length ≤ c2 ∧ k182.C w A2 x.f2.length x.f2 := by
  obtain ⟨n, h⟩ := h
  cases n with
  | zero => exact h.elim
  | succ n =>
    obtain ⟨_, _, rfl, rfl, ⟨_, _, rfl, rfl, ⟨A2, c2, rfl, l2, g2⟩⟩⟩ := h
    exact ⟨A2, c2, rfl, l2, Kd.fix_C g2⟩
theorem k182_mk (w : World) (x : S182) {A2 : Option Addr} {c2 : Nat} (l2 : x.f2.length ≤ c2) (g2 : k182.C w A2 x.f2.length x.f2) : k182.K w x [.int .i64 x.f0, .string x.f1, .slice A2 x.f2.length c2] := by
  obtain ⟨n2, q2⟩ := Kd.fix_C_back mono182 g2
  have r2 := Kd.upto_C_le mono182 sz182 (show n2 ≤ n2 by omega) q2
  exact ⟨n2 + 1, ⟨[.int .i64 x.f0], [.string x.f1, .slice A2 x.f2.length c2], rfl, rfl, ⟨[.string x.f1], [.slice A2 x.f2.length c2], rfl, rfl, ⟨A2, c2, rfl, l2, r2⟩⟩⟩⟩
def rd_T182 (xs : List S182) (i : Int) : S182 := xs.getD i.toNat z182
theorem at_T182 {w : World} {A : Option Addr} {n : Nat} {xs : List S182} (h : Kd.C k182 w A n xs) (i : Int) (h0 : 0 ≤ i) (h1 : i < n) : ∃ ad A2 c2, A = some ad ∧ w.cell? (ad.add (i.toNat * 3)) = some (.int .i64 (rd_T182 xs i).f0) ∧ w.cell? ⟨(ad.add (i.toNat * 3)).block, (ad.add (i.toNat * 3)).off + 1, none⟩ = some (.string (rd_T182 xs i).f1) ∧ w.cell? ⟨(ad.add (i.toNat * 3)).block, (ad.add (i.toNat * 3)).off + 2, none⟩ = some (.slice A2 (rd_T182 xs i).f2.length c2) ∧ (rd_T182 xs i).f2.length ≤ c2 ∧ k182.C w A2 (rd_T182 xs i).f2.length (rd_T182 xs i).f2 := by
  obtain ⟨ad, c, e, _, hK, hc0⟩ := Kd.C_get h z182 i h0 h1
  have hc : ∀ j u, c[j]? = some u → w.cell? (ad.add (i.toNat * 3 + j)) = some u := hc0
  obtain ⟨A2, c2, rfl, l2, g2⟩ := k182_open hK
  exact ⟨ad, A2, c2, e, hc 0 _ rfl, by rw [← add_field _ _ 1 (by omega)]; exact hc 1 _ rfl, by rw [← add_field _ _ 2 (by omega)]; exact hc 2 _ rfl, l2, g2⟩

/-! #### struct type 238 -/
structure S238 where
  f0 : Int
  f1 : Int
def z238 : S238 := ⟨(0 : Int), (0 : Int)⟩
def k238 : Kd S238 := Kd.iso (Kd.pair (Kd.int .i64) (Kd.int .i64)) (fun x : S238 => (x.f0, x.f1))
theorem k238_open {w : World} {x : S238} {cs : List Value} (h : k238.K w x cs) : cs = [.int .i64 x.f0, .int .i64 x.f1] := by
  obtain ⟨_, _, rfl, rfl, rfl⟩ := h
  exact rfl
def rd_T238 (xs : List S238) (i : Int) : S238 := xs.getD i.toNat z238
theorem at_T238 {w : World} {A : Option Addr} {n : Nat} {xs : List S238} (h : Kd.C k238 w A n xs) (i : Int) (h0 : 0 ≤ i) (h1 : i < n) : ∃ ad , A = some ad ∧ w.cell? (ad.add (i.toNat * 2)) = some (.int .i64 (rd_T238 xs i).f0) ∧ w.cell? ⟨(ad.add (i.toNat * 2)).block, (ad.add (i.toNat * 2)).off + 1, none⟩ = some (.int .i64 (rd_T238 xs i).f1) := by
  obtain ⟨ad, c, e, _, hK, hc0⟩ := Kd.C_get h z238 i h0 h1
  have hc : ∀ j u, c[j]? = some u → w.cell? (ad.add (i.toNat * 2 + j)) = some u := hc0
  obtain rfl := k238_open hK
  exact ⟨ad, e, hc 0 _ rfl, by rw [← add_field _ _ 1 (by omega)]; exact hc 1 _ rfl⟩

/-! #### struct type 81 -/
structure S81 where
  f0 : ByteArray
  f1 : Int
  f2 : Int
  f3 : Int
  f4 : Int
  f5 : (List S238)
  f6 : ByteArray
def z81 : S81 := ⟨(⟨#[]⟩ : ByteArray), (0 : Int), (0 : Int), (0 : Int), (0 : Int), ([] : List S238), (⟨#[]⟩ : ByteArray)⟩
def k81 : Kd S81 := Kd.iso (Kd.pair Kd.string (Kd.pair (Kd.int .i64) (Kd.pair (Kd.int .i64) (Kd.pair (Kd.int .i64) (Kd.pair (Kd.int .i64) (Kd.pair (Kd.slice 238 k238) Kd.string)))))) (fun x : S81 => (x.f0, x.f1, x.f2, x.f3, x.f4, x.f5, x.f6))
theorem k81_open {w : World} {x : S81} {cs : List Value} (h : k81.K w x cs) : ∃ A5 c5, cs = [.string x.f0, .int .i64 x.f1, .int .i64 x.f2, .int .i64 x.f3, .int .i64 x.f4, .slice A5 x.f5.length c5, .string x.f6] ∧ x.f5.length ≤ c5 ∧ k238.C w A5 x.f5.length x.f5 := by
  obtain ⟨_, _, rfl, rfl, ⟨_, _, rfl, rfl, ⟨_, _, rfl, rfl, ⟨_, _, rfl, rfl, ⟨_, _, rfl, rfl, ⟨_, _, rfl, ⟨A5, c5, rfl, l5, g5⟩, rfl⟩⟩⟩⟩⟩⟩ := h
  exact ⟨A5, c5, rfl, l5, g5⟩
def rd_T81 (xs : List S81) (i : Int) : S81 := xs.getD i.toNat z81
theorem at_T81 {w : World} {A : Option Addr} {n : Nat} {xs : List S81} (h : Kd.C k81 w A n xs) (i : Int) (h0 : 0 ≤ i) (h1 : i < n) : ∃ ad A5 c5, A = some ad ∧ w.cell? (ad.add (i.toNat * 7)) = some (.string (rd_T81 xs i).f0) ∧ w.cell? ⟨(ad.add (i.toNat * 7)).block, (ad.add (i.toNat * 7)).off + 1, none⟩ = some (.int .i64 (rd_T81 xs i).f1) ∧ w.cell? ⟨(ad.add (i.toNat * 7)).block, (ad.add (i.toNat * 7)).off + 2, none⟩ = some (.int .i64 (rd_T81 xs i).f2) ∧ w.cell? ⟨(ad.add (i.toNat * 7)).block, (ad.add (i.toNat * 7)).off + 3, none⟩ = some (.int .i64 (rd_T81 xs i).f3) ∧ w.cell? ⟨(ad.add (i.toNat * 7)).block, (ad.add (i.toNat * 7)).off + 4, none⟩ = some (.int .i64 (rd_T81 xs i).f4) ∧ w.cell? ⟨(ad.add (i.toNat * 7)).block, (ad.add (i.toNat * 7)).off + 5, none⟩ = some (.slice A5 (rd_T81 xs i).f5.length c5) ∧ w.cell? ⟨(ad.add (i.toNat * 7)).block, (ad.add (i.toNat * 7)).off + 6, none⟩ = some (.string (rd_T81 xs i).f6) ∧ (rd_T81 xs i).f5.length ≤ c5 ∧ k238.C w A5 (rd_T81 xs i).f5.length (rd_T81 xs i).f5 := by
  obtain ⟨ad, c, e, _, hK, hc0⟩ := Kd.C_get h z81 i h0 h1
  have hc : ∀ j u, c[j]? = some u → w.cell? (ad.add (i.toNat * 7 + j)) = some u := hc0
  obtain ⟨A5, c5, rfl, l5, g5⟩ := k81_open hK
  exact ⟨ad, A5, c5, e, hc 0 _ rfl, by rw [← add_field _ _ 1 (by omega)]; exact hc 1 _ rfl, by rw [← add_field _ _ 2 (by omega)]; exact hc 2 _ rfl, by rw [← add_field _ _ 3 (by omega)]; exact hc 3 _ rfl, by rw [← add_field _ _ 4 (by omega)]; exact hc 4 _ rfl, by rw [← add_field _ _ 5 (by omega)]; exact hc 5 _ rfl, by rw [← add_field _ _ 6 (by omega)]; exact hc 6 _ rfl, l5, g5⟩

/-! #### struct type 115 -/
structure S115 where
  f0 : ByteArray
  f1 : ByteArray
def z115 : S115 := ⟨(⟨#[]⟩ : ByteArray), (⟨#[]⟩ : ByteArray)⟩
def k115 : Kd S115 := Kd.iso (Kd.pair Kd.string Kd.string) (fun x : S115 => (x.f0, x.f1))
theorem k115_open {w : World} {x : S115} {cs : List Value} (h : k115.K w x cs) : cs = [.string x.f0, .string x.f1] := by
  obtain ⟨_, _, rfl, rfl, rfl⟩ := h
  exact rfl
def rd_T115 (xs : List S115) (i : Int) : S115 := xs.getD i.toNat z115
theorem at_T115 {w : World} {A : Option Addr} {n : Nat} {xs : List S115} (h : Kd.C k115 w A n xs) (i : Int) (h0 : 0 ≤ i) (h1 : i < n) : ∃ ad , A = some ad ∧ w.cell? (ad.add (i.toNat * 2)) = some (.string (rd_T115 xs i).f0) ∧ w.cell? ⟨(ad.add (i.toNat * 2)).block, (ad.add (i.toNat * 2)).off + 1, none⟩ = some (.string (rd_T115 xs i).f1) := by
  obtain ⟨ad, c, e, _, hK, hc0⟩ := Kd.C_get h z115 i h0 h1
  have hc : ∀ j u, c[j]? = some u → w.cell? (ad.add (i.toNat * 2 + j)) = some u := hc0
  obtain rfl := k115_open hK
  exact ⟨ad, e, hc 0 _ rfl, by rw [← add_field _ _ 1 (by omega)]; exact hc 1 _ rfl⟩

/-! #### struct type 33 -/
structure S33 where
  f0 : (List S91)
  f1 : (List S81)
  f2 : (List S115)
def z33 : S33 := ⟨([] : List S91), ([] : List S81), ([] : List S115)⟩
/-! #### struct type 194 -/
structure S194 where
  f0 : Int
  f1 : (List Int)
  f2 : Bool
  f3 : Bool
  f4 : Int
def z194 : S194 := ⟨(0 : Int), ([] : List Int), false, false, (0 : Int)⟩
def k194 : Kd S194 := Kd.iso (Kd.pair (Kd.int .i64) (Kd.pair (Kd.slice 3 (Kd.int .i64)) (Kd.pair Kd.bool (Kd.pair Kd.bool (Kd.int .i64))))) (fun x : S194 => (x.f0, x.f1, x.f2, x.f3, x.f4))
theorem k194_open {w : World} {x : S194} {cs : List Value} (h : k194.K w x cs) : ∃ A1 c1, cs = [.int .i64 x.f0, .slice A1 x.f1.length c1, .bool x.f2, .bool x.f3, .int .i64 x.f4] ∧ x.f1.length ≤ c1 ∧ (Kd.int .i64).C w A1 x.f1.length x.f1 := by
  obtain ⟨_, _, rfl, rfl, ⟨_, _, rfl, ⟨A1, c1, rfl, l1, g1⟩, ⟨_, _, rfl, rfl, ⟨_, _, rfl, rfl, rfl⟩⟩⟩⟩ := h
  exact ⟨A1, c1, rfl, l1, g1⟩
/-! #### struct type 196 -/
structure S196 where
  f0 : Int
  f1 : (List Int)
  f2 : S194
def z196 : S196 := ⟨(0 : Int), ([] : List Int), z194⟩
def k196 : Kd S196 := Kd.iso (Kd.pair (Kd.int .i64) (Kd.pair (Kd.slice 3 (Kd.int .i64)) k194)) (fun x : S196 => (x.f0, x.f1, x.f2))
theorem k196_open {w : World} {x : S196} {cs : List Value} (h : k196.K w x cs) : ∃ A1 c1 A3 c3, cs = [.int .i64 x.f0, .slice A1 x.f1.length c1, .int .i64 x.f2.f0, .slice A3 x.f2.f1.length c3, .bool x.f2.f2, .bool x.f2.f3, .int .i64 x.f2.f4] ∧ x.f1.length ≤ c1 ∧ (Kd.int .i64).C w A1 x.f1.length x.f1 ∧ x.f2.f1.length ≤ c3 ∧ (Kd.int .i64).C w A3 x.f2.f1.length x.f2.f1 := by
  obtain ⟨_, _, rfl, rfl, ⟨_, _, rfl, ⟨A1, c1, rfl, l1, g1⟩, s2⟩⟩ := h
  obtain ⟨A3, c3, rfl, l3, g3⟩ := k194_open s2
  exact ⟨A1, c1, A3, c3, rfl, l1, g1, l3, g3⟩
def rd_T196 (xs : List S196) (i : Int) : S196 := xs.getD i.toNat z196
theorem at_T196 {w : World} {A : Option Addr} {n : Nat} {xs : List S196} (h : Kd.C k196 w A n xs) (i : Int) (h0 : 0 ≤ i) (h1 : i < n) : ∃ ad A1 c1 A3 c3, A = some ad ∧ w.cell? (ad.add (i.toNat * 7)) = some (.int .i64 (rd_T196 xs i).f0) ∧ w.cell? ⟨(ad.add (i.toNat * 7)).block, (ad.add (i.toNat * 7)).off + 1, none⟩ = some (.slice A1 (rd_T196 xs i).f1.length c1) ∧ w.cell? ⟨(ad.add (i.toNat * 7)).block, (ad.add (i.toNat * 7)).off + 2, none⟩ = some (.int .i64 (rd_T196 xs i).f2.f0) ∧ w.cell? ⟨(ad.add (i.toNat * 7)).block, (ad.add (i.toNat * 7)).off + 3, none⟩ = some (.slice A3 (rd_T196 xs i).f2.f1.length c3) ∧ w.cell? ⟨(ad.add (i.toNat * 7)).block, (ad.add (i.toNat * 7)).off + 4, none⟩ = some (.bool (rd_T196 xs i).f2.f2) ∧ w.cell? ⟨(ad.add (i.toNat * 7)).block, (ad.add (i.toNat * 7)).off + 5, none⟩ = some (.bool (rd_T196 xs i).f2.f3) ∧ w.cell? ⟨(ad.add (i.toNat * 7)).block, (ad.add (i.toNat * 7)).off + 6, none⟩ = some (.int .i64 (rd_T196 xs i).f2.f4) ∧ (rd_T196 xs i).f1.length ≤ c1 ∧ (Kd.int .i64).C w A1 (rd_T196 xs i).f1.length (rd_T196 xs i).f1 ∧ (rd_T196 xs i).f2.f1.length ≤ c3 ∧ (Kd.int .i64).C w A3 (rd_T196 xs i).f2.f1.length (rd_T196 xs i).f2.f1 := by
  obtain ⟨ad, c, e, _, hK, hc0⟩ := Kd.C_get h z196 i h0 h1
  have hc : ∀ j u, c[j]? = some u → w.cell? (ad.add (i.toNat * 7 + j)) = some u := hc0
  obtain ⟨A1, c1, A3, c3, rfl, l1, g1, l3, g3⟩ := k196_open hK
  exact ⟨ad, A1, c1, A3, c3, e, hc 0 _ rfl, by rw [← add_field _ _ 1 (by omega)]; exact hc 1 _ rfl, by rw [← add_field _ _ 2 (by omega)]; exact hc 2 _ rfl, by rw [← add_field _ _ 3 (by omega)]; exact hc 3 _ rfl, by rw [← add_field _ _ 4 (by omega)]; exact hc 4 _ rfl, by rw [← add_field _ _ 5 (by omega)]; exact hc 5 _ rfl, by rw [← add_field _ _ 6 (by omega)]; exact hc 6 _ rfl, l1, g1, l3, g3⟩

/-! #### struct type 199 -/
structure S199 where
  f0 : ByteArray
  f1 : ByteArray
  f2 : Int
def z199 : S199 := ⟨(⟨#[]⟩ : ByteArray), (⟨#[]⟩ : ByteArray), (0 : Int)⟩
def k199 : Kd S199 := Kd.iso (Kd.pair Kd.string (Kd.pair Kd.string (Kd.int .i64))) (fun x : S199 => (x.f0, x.f1, x.f2))
theorem k199_open {w : World} {x : S199} {cs : List Value} (h : k199.K w x cs) : cs = [.string x.f0, .string x.f1, .int .i64 x.f2] := by
  obtain ⟨_, _, rfl, rfl, ⟨_, _, rfl, rfl, rfl⟩⟩ := h
  exact rfl
def rd_T199 (xs : List S199) (i : Int) : S199 := xs.getD i.toNat z199
theorem at_T199 {w : World} {A : Option Addr} {n : Nat} {xs : List S199} (h : Kd.C k199 w A n xs) (i : Int) (h0 : 0 ≤ i) (h1 : i < n) : ∃ ad , A = some ad ∧ w.cell? (ad.add (i.toNat * 3)) = some (.string (rd_T199 xs i).f0) ∧ w.cell? ⟨(ad.add (i.toNat * 3)).block, (ad.add (i.toNat * 3)).off + 1, none⟩ = some (.string (rd_T199 xs i).f1) ∧ w.cell? ⟨(ad.add (i.toNat * 3)).block, (ad.add (i.toNat * 3)).off + 2, none⟩ = some (.int .i64 (rd_T199 xs i).f2) := by
  obtain ⟨ad, c, e, _, hK, hc0⟩ := Kd.C_get h z199 i h0 h1
  have hc : ∀ j u, c[j]? = some u → w.cell? (ad.add (i.toNat * 3 + j)) = some u := hc0
  obtain rfl := k199_open hK
  exact ⟨ad, e, hc 0 _ rfl, by rw [← add_field _ _ 1 (by omega)]; exact hc 1 _ rfl, by rw [← add_field _ _ 2 (by omega)]; exact hc 2 _ rfl⟩

/-! #### struct type 40 -/
structure S40 where
  f0 : S26
  f1 : (List S196)
  f2 : Int
  f3 : Int
  f4 : Int
  f5 : (List S199)
def k40 : Kd S40 := Kd.iso (Kd.pair k26 (Kd.pair (Kd.slice 196 k196) (Kd.pair (Kd.int .i64) (Kd.pair (Kd.int .i64) (Kd.pair (Kd.int .i64) (Kd.slice 199 k199)))))) (fun x : S40 => (x.f0, x.f1, x.f2, x.f3, x.f4, x.f5))
/-! #### struct type 200 -/
structure S200 where
  f0 : Int
  f1 : (List Int)
  f2 : Bool
  f3 : Bool
  f4 : Int
def z200 : S200 := ⟨(0 : Int), ([] : List Int), false, false, (0 : Int)⟩
def k200 : Kd S200 := Kd.iso (Kd.pair (Kd.int .i64) (Kd.pair (Kd.slice 3 (Kd.int .i64)) (Kd.pair Kd.bool (Kd.pair Kd.bool (Kd.int .i64))))) (fun x : S200 => (x.f0, x.f1, x.f2, x.f3, x.f4))
theorem k200_open {w : World} {x : S200} {cs : List Value} (h : k200.K w x cs) : ∃ A1 c1, cs = [.int .i64 x.f0, .slice A1 x.f1.length c1, .bool x.f2, .bool x.f3, .int .i64 x.f4] ∧ x.f1.length ≤ c1 ∧ (Kd.int .i64).C w A1 x.f1.length x.f1 := by
  obtain ⟨_, _, rfl, rfl, ⟨_, _, rfl, ⟨A1, c1, rfl, l1, g1⟩, ⟨_, _, rfl, rfl, ⟨_, _, rfl, rfl, rfl⟩⟩⟩⟩ := h
  exact ⟨A1, c1, rfl, l1, g1⟩
/-! #### struct type 202 -/
structure S202 where
  f0 : Int
  f1 : (List Int)
  f2 : S200
def z202 : S202 := ⟨(0 : Int), ([] : List Int), z200⟩
def k202 : Kd S202 := Kd.iso (Kd.pair (Kd.int .i64) (Kd.pair (Kd.slice 3 (Kd.int .i64)) k200)) (fun x : S202 => (x.f0, x.f1, x.f2))
theorem k202_open {w : World} {x : S202} {cs : List Value} (h : k202.K w x cs) : ∃ A1 c1 A3 c3, cs = [.int .i64 x.f0, .slice A1 x.f1.length c1, .int .i64 x.f2.f0, .slice A3 x.f2.f1.length c3, .bool x.f2.f2, .bool x.f2.f3, .int .i64 x.f2.f4] ∧ x.f1.length ≤ c1 ∧ (Kd.int .i64).C w A1 x.f1.length x.f1 ∧ x.f2.f1.length ≤ c3 ∧ (Kd.int .i64).C w A3 x.f2.f1.length x.f2.f1 := by
  obtain ⟨_, _, rfl, rfl, ⟨_, _, rfl, ⟨A1, c1, rfl, l1, g1⟩, s2⟩⟩ := h
  obtain ⟨A3, c3, rfl, l3, g3⟩ := k200_open s2
  exact ⟨A1, c1, A3, c3, rfl, l1, g1, l3, g3⟩
def rd_T202 (xs : List S202) (i : Int) : S202 := xs.getD i.toNat z202
theorem at_T202 {w : World} {A : Option Addr} {n : Nat} {xs : List S202} (h : Kd.C k202 w A n xs) (i : Int) (h0 : 0 ≤ i) (h1 : i < n) : ∃ ad A1 c1 A3 c3, A = some ad ∧ w.cell? (ad.add (i.toNat * 7)) = some (.int .i64 (rd_T202 xs i).f0) ∧ w.cell? ⟨(ad.add (i.toNat * 7)).block, (ad.add (i.toNat * 7)).off + 1, none⟩ = some (.slice A1 (rd_T202 xs i).f1.length c1) ∧ w.cell? ⟨(ad.add (i.toNat * 7)).block, (ad.add (i.toNat * 7)).off + 2, none⟩ = some (.int .i64 (rd_T202 xs i).f2.f0) ∧ w.cell? ⟨(ad.add (i.toNat * 7)).block, (ad.add (i.toNat * 7)).off + 3, none⟩ = some (.slice A3 (rd_T202 xs i).f2.f1.length c3) ∧ w.cell? ⟨(ad.add (i.toNat * 7)).block, (ad.add (i.toNat * 7)).off + 4, none⟩ = some (.bool (rd_T202 xs i).f2.f2) ∧ w.cell? ⟨(ad.add (i.toNat * 7)).block, (ad.add (i.toNat * 7)).off + 5, none⟩ = some (.bool (rd_T202 xs i).f2.f3) ∧ w.cell? ⟨(ad.add (i.toNat * 7)).block, (ad.add (i.toNat * 7)).off + 6, none⟩ = some (.int .i64 (rd_T202 xs i).f2.f4) ∧ (rd_T202 xs i).f1.length ≤ c1 ∧ (Kd.int .i64).C w A1 (rd_T202 xs i).f1.length (rd_T202 xs i).f1 ∧ (rd_T202 xs i).f2.f1.length ≤ c3 ∧ (Kd.int .i64).C w A3 (rd_T202 xs i).f2.f1.length (rd_T202 xs i).f2.f1 := by
  obtain ⟨ad, c, e, _, hK, hc0⟩ := Kd.C_get h z202 i h0 h1
  have hc : ∀ j u, c[j]? = some u → w.cell? (ad.add (i.toNat * 7 + j)) = some u := hc0
  obtain ⟨A1, c1, A3, c3, rfl, l1, g1, l3, g3⟩ := k202_open hK
  exact ⟨ad, A1, c1, A3, c3, e, hc 0 _ rfl, by rw [← add_field _ _ 1 (by omega)]; exact hc 1 _ rfl, by rw [← add_field _ _ 2 (by omega)]; exact hc 2 _ rfl, by rw [← add_field _ _ 3 (by omega)]; exact hc 3 _ rfl, by rw [← add_field _ _ 4 (by omega)]; exact hc 4 _ rfl, by rw [← add_field _ _ 5 (by omega)]; exact hc 5 _ rfl, by rw [← add_field _ _ 6 (by omega)]; exact hc 6 _ rfl, l1, g1, l3, g3⟩

/-! #### struct type 205 -/
structure S205 where
  f0 : ByteArray
  f1 : ByteArray
  f2 : Int
def z205 : S205 := ⟨(⟨#[]⟩ : ByteArray), (⟨#[]⟩ : ByteArray), (0 : Int)⟩
def k205 : Kd S205 := Kd.iso (Kd.pair Kd.string (Kd.pair Kd.string (Kd.int .i64))) (fun x : S205 => (x.f0, x.f1, x.f2))
theorem k205_open {w : World} {x : S205} {cs : List Value} (h : k205.K w x cs) : cs = [.string x.f0, .string x.f1, .int .i64 x.f2] := by
  obtain ⟨_, _, rfl, rfl, ⟨_, _, rfl, rfl, rfl⟩⟩ := h
  exact rfl
def rd_T205 (xs : List S205) (i : Int) : S205 := xs.getD i.toNat z205
theorem at_T205 {w : World} {A : Option Addr} {n : Nat} {xs : List S205} (h : Kd.C k205 w A n xs) (i : Int) (h0 : 0 ≤ i) (h1 : i < n) : ∃ ad , A = some ad ∧ w.cell? (ad.add (i.toNat * 3)) = some (.string (rd_T205 xs i).f0) ∧ w.cell? ⟨(ad.add (i.toNat * 3)).block, (ad.add (i.toNat * 3)).off + 1, none⟩ = some (.string (rd_T205 xs i).f1) ∧ w.cell? ⟨(ad.add (i.toNat * 3)).block, (ad.add (i.toNat * 3)).off + 2, none⟩ = some (.int .i64 (rd_T205 xs i).f2) := by
  obtain ⟨ad, c, e, _, hK, hc0⟩ := Kd.C_get h z205 i h0 h1
  have hc : ∀ j u, c[j]? = some u → w.cell? (ad.add (i.toNat * 3 + j)) = some u := hc0
  obtain rfl := k205_open hK
  exact ⟨ad, e, hc 0 _ rfl, by rw [← add_field _ _ 1 (by omega)]; exact hc 1 _ rfl, by rw [← add_field _ _ 2 (by omega)]; exact hc 2 _ rfl⟩

/-! #### struct type 46 -/
structure S46 where
  f0 : S33
  f1 : (List S202)
  f2 : Int
  f3 : Int
  f4 : Int
  f5 : (List S205)
def z46 : S46 := ⟨z33, ([] : List S202), (0 : Int), (0 : Int), (0 : Int), ([] : List S205)⟩
/-! #### struct type 265 -/
structure S265 where
  f0 : Int
  f1 : Int
  f2 : ByteArray
  f3 : Int
def z265 : S265 := ⟨(0 : Int), (0 : Int), (⟨#[]⟩ : ByteArray), (0 : Int)⟩
def k265 : Kd S265 := Kd.iso (Kd.pair (Kd.int .i64) (Kd.pair (Kd.int .i64) (Kd.pair Kd.string (Kd.int .i64)))) (fun x : S265 => (x.f0, x.f1, x.f2, x.f3))
theorem k265_open {w : World} {x : S265} {cs : List Value} (h : k265.K w x cs) : cs = [.int .i64 x.f0, .int .i64 x.f1, .string x.f2, .int .i64 x.f3] := by
  obtain ⟨_, _, rfl, rfl, ⟨_, _, rfl, rfl, ⟨_, _, rfl, rfl, rfl⟩⟩⟩ := h
  exact rfl
def rd_T265 (xs : List S265) (i : Int) : S265 := xs.getD i.toNat z265
theorem at_T265 {w : World} {A : Option Addr} {n : Nat} {xs : List S265} (h : Kd.C k265 w A n xs) (i : Int) (h0 : 0 ≤ i) (h1 : i < n) : ∃ ad , A = some ad ∧ w.cell? (ad.add (i.toNat * 4)) = some (.int .i64 (rd_T265 xs i).f0) ∧ w.cell? ⟨(ad.add (i.toNat * 4)).block, (ad.add (i.toNat * 4)).off + 1, none⟩ = some (.int .i64 (rd_T265 xs i).f1) ∧ w.cell? ⟨(ad.add (i.toNat * 4)).block, (ad.add (i.toNat * 4)).off + 2, none⟩ = some (.string (rd_T265 xs i).f2) ∧ w.cell? ⟨(ad.add (i.toNat * 4)).block, (ad.add (i.toNat * 4)).off + 3, none⟩ = some (.int .i64 (rd_T265 xs i).f3) := by
  obtain ⟨ad, c, e, _, hK, hc0⟩ := Kd.C_get h z265 i h0 h1
  have hc : ∀ j u, c[j]? = some u → w.cell? (ad.add (i.toNat * 4 + j)) = some u := hc0
  obtain rfl := k265_open hK
  exact ⟨ad, e, hc 0 _ rfl, by rw [← add_field _ _ 1 (by omega)]; exact hc 1 _ rfl, by rw [← add_field _ _ 2 (by omega)]; exact hc 2 _ rfl, by rw [← add_field _ _ 3 (by omega)]; exact hc 3 _ rfl⟩

/-! #### struct type 304 -/
structure S304 where
  f0 : Int
  f1 : Int
  f2 : (List ByteArray)
  f3 : (List ByteArray)
def z304 : S304 := ⟨(0 : Int), (0 : Int), ([] : List ByteArray), ([] : List ByteArray)⟩
def k304 : Kd S304 := Kd.iso (Kd.pair (Kd.int .i64) (Kd.pair (Kd.int .i64) (Kd.pair (Kd.slice 9 Kd.string) (Kd.slice 9 Kd.string)))) (fun x : S304 => (x.f0, x.f1, x.f2, x.f3))
theorem k304_open {w : World} {x : S304} {cs : List Value} (h : k304.K w x cs) : ∃ A2 c2 A3 c3, cs = [.int .i64 x.f0, .int .i64 x.f1, .slice A2 x.f2.length c2, .slice A3 x.f3.length c3] ∧ x.f2.length ≤ c2 ∧ Kd.string.C w A2 x.f2.length x.f2 ∧ x.f3.length ≤ c3 ∧ Kd.string.C w A3 x.f3.length x.f3 := by
  obtain ⟨_, _, rfl, rfl, ⟨_, _, rfl, rfl, ⟨_, _, rfl, ⟨A2, c2, rfl, l2, g2⟩, ⟨A3, c3, rfl, l3, g3⟩⟩⟩⟩ := h
  exact ⟨A2, c2, A3, c3, rfl, l2, g2, l3, g3⟩
def rd_T304 (xs : List S304) (i : Int) : S304 := xs.getD i.toNat z304
theorem at_T304 {w : World} {A : Option Addr} {n : Nat} {xs : List S304} (h : Kd.C k304 w A n xs) (i : Int) (h0 : 0 ≤ i) (h1 : i < n) : ∃ ad A2 c2 A3 c3, A = some ad ∧ w.cell? (ad.add (i.toNat * 4)) = some (.int .i64 (rd_T304 xs i).f0) ∧ w.cell? ⟨(ad.add (i.toNat * 4)).block, (ad.add (i.toNat * 4)).off + 1, none⟩ = some (.int .i64 (rd_T304 xs i).f1) ∧ w.cell? ⟨(ad.add (i.toNat * 4)).block, (ad.add (i.toNat * 4)).off + 2, none⟩ = some (.slice A2 (rd_T304 xs i).f2.length c2) ∧ w.cell? ⟨(ad.add (i.toNat * 4)).block, (ad.add (i.toNat * 4)).off + 3, none⟩ = some (.slice A3 (rd_T304 xs i).f3.length c3) ∧ (rd_T304 xs i).f2.length ≤ c2 ∧ Kd.string.C w A2 (rd_T304 xs i).f2.length (rd_T304 xs i).f2 ∧ (rd_T304 xs i).f3.length ≤ c3 ∧ Kd.string.C w A3 (rd_T304 xs i).f3.length (rd_T304 xs i).f3 := by
  obtain ⟨ad, c, e, _, hK, hc0⟩ := Kd.C_get h z304 i h0 h1
  have hc : ∀ j u, c[j]? = some u → w.cell? (ad.add (i.toNat * 4 + j)) = some u := hc0
  obtain ⟨A2, c2, A3, c3, rfl, l2, g2, l3, g3⟩ := k304_open hK
  exact ⟨ad, A2, c2, A3, c3, e, hc 0 _ rfl, by rw [← add_field _ _ 1 (by omega)]; exact hc 1 _ rfl, by rw [← add_field _ _ 2 (by omega)]; exact hc 2 _ rfl, by rw [← add_field _ _ 3 (by omega)]; exact hc 3 _ rfl, l2, g2, l3, g3⟩

/-! #### struct type 269 -/
structure S269 where
  f0 : ByteArray
  f1 : Int
  f2 : Int
  f3 : Int
  f4 : Int
  f5 : Int
  f6 : (List S304)
  f7 : ByteArray
def z269 : S269 := ⟨(⟨#[]⟩ : ByteArray), (0 : Int), (0 : Int), (0 : Int), (0 : Int), (0 : Int), ([] : List S304), (⟨#[]⟩ : ByteArray)⟩
def k269 : Kd S269 := Kd.iso (Kd.pair Kd.string (Kd.pair (Kd.int .i64) (Kd.pair (Kd.int .i64) (Kd.pair (Kd.int .i64) (Kd.pair (Kd.int .i64) (Kd.pair (Kd.int .i64) (Kd.pair (Kd.slice 304 k304) Kd.string))))))) (fun x : S269 => (x.f0, x.f1, x.f2, x.f3, x.f4, x.f5, x.f6, x.f7))
theorem k269_open {w : World} {x : S269} {cs : List Value} (h : k269.K w x cs) : ∃ A6 c6, cs = [.string x.f0, .int .i64 x.f1, .int .i64 x.f2, .int .i64 x.f3, .int .i64 x.f4, .int .i64 x.f5, .slice A6 x.f6.length c6, .string x.f7] ∧ x.f6.length ≤ c6 ∧ k304.C w A6 x.f6.length x.f6 := by
  obtain ⟨_, _, rfl, rfl, ⟨_, _, rfl, rfl, ⟨_, _, rfl, rfl, ⟨_, _, rfl, rfl, ⟨_, _, rfl, rfl, ⟨_, _, rfl, rfl, ⟨_, _, rfl, ⟨A6, c6, rfl, l6, g6⟩, rfl⟩⟩⟩⟩⟩⟩⟩ := h
  exact ⟨A6, c6, rfl, l6, g6⟩
/-! #### struct type 271 -/
structure S271 where
  f0 : Int
  f1 : S269
def z271 : S271 := ⟨(0 : Int), z269⟩
def k271 : Kd S271 := Kd.iso (Kd.pair (Kd.int .i64) k269) (fun x : S271 => (x.f0, x.f1))
theorem k271_open {w : World} {x : S271} {cs : List Value} (h : k271.K w x cs) : ∃ A7 c7, cs = [.int .i64 x.f0, .string x.f1.f0, .int .i64 x.f1.f1, .int .i64 x.f1.f2, .int .i64 x.f1.f3, .int .i64 x.f1.f4, .int .i64 x.f1.f5, .slice A7 x.f1.f6.length c7, .string x.f1.f7] ∧ x.f1.f6.length ≤ c7 ∧ k304.C w A7 x.f1.f6.length x.f1.f6 := by
  obtain ⟨_, _, rfl, rfl, s1⟩ := h
  obtain ⟨A7, c7, rfl, l7, g7⟩ := k269_open s1
  exact ⟨A7, c7, rfl, l7, g7⟩
def rd_T271 (xs : List S271) (i : Int) : S271 := xs.getD i.toNat z271
theorem at_T271 {w : World} {A : Option Addr} {n : Nat} {xs : List S271} (h : Kd.C k271 w A n xs) (i : Int) (h0 : 0 ≤ i) (h1 : i < n) : ∃ ad A7 c7, A = some ad ∧ w.cell? (ad.add (i.toNat * 9)) = some (.int .i64 (rd_T271 xs i).f0) ∧ w.cell? ⟨(ad.add (i.toNat * 9)).block, (ad.add (i.toNat * 9)).off + 1, none⟩ = some (.string (rd_T271 xs i).f1.f0) ∧ w.cell? ⟨(ad.add (i.toNat * 9)).block, (ad.add (i.toNat * 9)).off + 2, none⟩ = some (.int .i64 (rd_T271 xs i).f1.f1) ∧ w.cell? ⟨(ad.add (i.toNat * 9)).block, (ad.add (i.toNat * 9)).off + 3, none⟩ = some (.int .i64 (rd_T271 xs i).f1.f2) ∧ w.cell? ⟨(ad.add (i.toNat * 9)).block, (ad.add (i.toNat * 9)).off + 4, none⟩ = some (.int .i64 (rd_T271 xs i).f1.f3) ∧ w.cell? ⟨(ad.add (i.toNat * 9)).block, (ad.add (i.toNat * 9)).off + 5, none⟩ = some (.int .i64 (rd_T271 xs i).f1.f4) ∧ w.cell? ⟨(ad.add (i.toNat * 9)).block, (ad.add (i.toNat * 9)).off + 6, none⟩ = some (.int .i64 (rd_T271 xs i).f1.f5) ∧ w.cell? ⟨(ad.add (i.toNat * 9)).block, (ad.add (i.toNat * 9)).off + 7, none⟩ = some (.slice A7 (rd_T271 xs i).f1.f6.length c7) ∧ w.cell? ⟨(ad.add (i.toNat * 9)).block, (ad.add (i.toNat * 9)).off + 8, none⟩ = some (.string (rd_T271 xs i).f1.f7) ∧ (rd_T271 xs i).f1.f6.length ≤ c7 ∧ k304.C w A7 (rd_T271 xs i).f1.f6.length (rd_T271 xs i).f1.f6 := by
  obtain ⟨ad, c, e, _, hK, hc0⟩ := Kd.C_get h z271 i h0 h1
  have hc : ∀ j u, c[j]? = some u → w.cell? (ad.add (i.toNat * 9 + j)) = some u := hc0
  obtain ⟨A7, c7, rfl, l7, g7⟩ := k271_open hK
  exact ⟨ad, A7, c7, e, hc 0 _ rfl, by rw [← add_field _ _ 1 (by omega)]; exact hc 1 _ rfl, by rw [← add_field _ _ 2 (by omega)]; exact hc 2 _ rfl, by rw [← add_field _ _ 3 (by omega)]; exact hc 3 _ rfl, by rw [← add_field _ _ 4 (by omega)]; exact hc 4 _ rfl, by rw [← add_field _ _ 5 (by omega)]; exact hc 5 _ rfl, by rw [← add_field _ _ 6 (by omega)]; exact hc 6 _ rfl, by rw [← add_field _ _ 7 (by omega)]; exact hc 7 _ rfl, by rw [← add_field _ _ 8 (by omega)]; exact hc 8 _ rfl, l7, g7⟩

/-! #### struct type 54 -/
structure S54 where
  f0 : ByteArray
  f1 : Int
  f2 : (List S265)
  f3 : (List S271)
  f4 : (List Int)
def k54 : Kd S54 := Kd.iso (Kd.pair Kd.string (Kd.pair (Kd.int .i64) (Kd.pair (Kd.slice 265 k265) (Kd.pair (Kd.slice 271 k271) (Kd.slice 3 (Kd.int .i64)))))) (fun x : S54 => (x.f0, x.f1, x.f2, x.f3, x.f4))
/-! #### struct type 214 -/
structure S214 where
  f0 : Bool
  f1 : ByteArray
def z214 : S214 := ⟨false, (⟨#[]⟩ : ByteArray)⟩
def k214 : Kd S214 := Kd.iso (Kd.pair Kd.bool Kd.string) (fun x : S214 => (x.f0, x.f1))
theorem k214_open {w : World} {x : S214} {cs : List Value} (h : k214.K w x cs) : cs = [.bool x.f0, .string x.f1] := by
  obtain ⟨_, _, rfl, rfl, rfl⟩ := h
  exact rfl
def rd_T214 (xs : List S214) (i : Int) : S214 := xs.getD i.toNat z214
theorem at_T214 {w : World} {A : Option Addr} {n : Nat} {xs : List S214} (h : Kd.C k214 w A n xs) (i : Int) (h0 : 0 ≤ i) (h1 : i < n) : ∃ ad , A = some ad ∧ w.cell? (ad.add (i.toNat * 2)) = some (.bool (rd_T214 xs i).f0) ∧ w.cell? ⟨(ad.add (i.toNat * 2)).block, (ad.add (i.toNat * 2)).off + 1, none⟩ = some (.string (rd_T214 xs i).f1) := by
  obtain ⟨ad, c, e, _, hK, hc0⟩ := Kd.C_get h z214 i h0 h1
  have hc : ∀ j u, c[j]? = some u → w.cell? (ad.add (i.toNat * 2 + j)) = some u := hc0
  obtain rfl := k214_open hK
  exact ⟨ad, e, hc 0 _ rfl, by rw [← add_field _ _ 1 (by omega)]; exact hc 1 _ rfl⟩

/-! #### struct type 217 -/
structure S217 where
  f0 : Int
  f1 : ByteArray
def z217 : S217 := ⟨(0 : Int), (⟨#[]⟩ : ByteArray)⟩
def k217 : Kd S217 := Kd.iso (Kd.pair (Kd.int .i64) Kd.string) (fun x : S217 => (x.f0, x.f1))
theorem k217_open {w : World} {x : S217} {cs : List Value} (h : k217.K w x cs) : cs = [.int .i64 x.f0, .string x.f1] := by
  obtain ⟨_, _, rfl, rfl, rfl⟩ := h
  exact rfl
def rd_T217 (xs : List S217) (i : Int) : S217 := xs.getD i.toNat z217
theorem at_T217 {w : World} {A : Option Addr} {n : Nat} {xs : List S217} (h : Kd.C k217 w A n xs) (i : Int) (h0 : 0 ≤ i) (h1 : i < n) : ∃ ad , A = some ad ∧ w.cell? (ad.add (i.toNat * 2)) = some (.int .i64 (rd_T217 xs i).f0) ∧ w.cell? ⟨(ad.add (i.toNat * 2)).block, (ad.add (i.toNat * 2)).off + 1, none⟩ = some (.string (rd_T217 xs i).f1) := by
  obtain ⟨ad, c, e, _, hK, hc0⟩ := Kd.C_get h z217 i h0 h1
  have hc : ∀ j u, c[j]? = some u → w.cell? (ad.add (i.toNat * 2 + j)) = some u := hc0
  obtain rfl := k217_open hK
  exact ⟨ad, e, hc 0 _ rfl, by rw [← add_field _ _ 1 (by omega)]; exact hc 1 _ rfl⟩

/-! #### struct type 59 -/
structure S59 where
  f0 : S40
  f1 : S54
  f2 : (List S88)
  f3 : (List S214)
  f4 : (List Int)
  f5 : (List S217)
  f6 : (List ByteArray)
  f7 : (List ByteArray)
def k59 : Kd S59 := Kd.iso (Kd.pair k40 (Kd.pair k54 (Kd.pair (Kd.slice 88 k88) (Kd.pair (Kd.slice 214 k214) (Kd.pair (Kd.slice 3 (Kd.int .i64)) (Kd.pair (Kd.slice 217 k217) (Kd.pair (Kd.slice 9 Kd.string) (Kd.slice 9 Kd.string)))))))) (fun x : S59 => (x.f0, x.f1, x.f2, x.f3, x.f4, x.f5, x.f6, x.f7))
/-! #### struct type 273 -/
structure S273 where
  f0 : Int
  f1 : Int
  f2 : (List ByteArray)
  f3 : (List ByteArray)
def z273 : S273 := ⟨(0 : Int), (0 : Int), ([] : List ByteArray), ([] : List ByteArray)⟩
def k273 : Kd S273 := Kd.iso (Kd.pair (Kd.int .i64) (Kd.pair (Kd.int .i64) (Kd.pair (Kd.slice 9 Kd.string) (Kd.slice 9 Kd.string)))) (fun x : S273 => (x.f0, x.f1, x.f2, x.f3))
theorem k273_open {w : World} {x : S273} {cs : List Value} (h : k273.K w x cs) : ∃ A2 c2 A3 c3, cs = [.int .i64 x.f0, .int .i64 x.f1, .slice A2 x.f2.length c2, .slice A3 x.f3.length c3] ∧ x.f2.length ≤ c2 ∧ Kd.string.C w A2 x.f2.length x.f2 ∧ x.f3.length ≤ c3 ∧ Kd.string.C w A3 x.f3.length x.f3 := by
  obtain ⟨_, _, rfl, rfl, ⟨_, _, rfl, rfl, ⟨_, _, rfl, ⟨A2, c2, rfl, l2, g2⟩, ⟨A3, c3, rfl, l3, g3⟩⟩⟩⟩ := h
  exact ⟨A2, c2, A3, c3, rfl, l2, g2, l3, g3⟩
def rd_T273 (xs : List S273) (i : Int) : S273 := xs.getD i.toNat z273
theorem at_T273 {w : World} {A : Option Addr} {n : Nat} {xs : List S273} (h : Kd.C k273 w A n xs) (i : Int) (h0 : 0 ≤ i) (h1 : i < n) : ∃ ad A2 c2 A3 c3, A = some ad ∧ w.cell? (ad.add (i.toNat * 4)) = some (.int .i64 (rd_T273 xs i).f0) ∧ w.cell? ⟨(ad.add (i.toNat * 4)).block, (ad.add (i.toNat * 4)).off + 1, none⟩ = some (.int .i64 (rd_T273 xs i).f1) ∧ w.cell? ⟨(ad.add (i.toNat * 4)).block, (ad.add (i.toNat * 4)).off + 2, none⟩ = some (.slice A2 (rd_T273 xs i).f2.length c2) ∧ w.cell? ⟨(ad.add (i.toNat * 4)).block, (ad.add (i.toNat * 4)).off + 3, none⟩ = some (.slice A3 (rd_T273 xs i).f3.length c3) ∧ (rd_T273 xs i).f2.length ≤ c2 ∧ Kd.string.C w A2 (rd_T273 xs i).f2.length (rd_T273 xs i).f2 ∧ (rd_T273 xs i).f3.length ≤ c3 ∧ Kd.string.C w A3 (rd_T273 xs i).f3.length (rd_T273 xs i).f3 := by
  obtain ⟨ad, c, e, _, hK, hc0⟩ := Kd.C_get h z273 i h0 h1
  have hc : ∀ j u, c[j]? = some u → w.cell? (ad.add (i.toNat * 4 + j)) = some u := hc0
  obtain ⟨A2, c2, A3, c3, rfl, l2, g2, l3, g3⟩ := k273_open hK
  exact ⟨ad, A2, c2, A3, c3, e, hc 0 _ rfl, by rw [← add_field _ _ 1 (by omega)]; exact hc 1 _ rfl, by rw [← add_field _ _ 2 (by omega)]; exact hc 2 _ rfl, by rw [← add_field _ _ 3 (by omega)]; exact hc 3 _ rfl, l2, g2, l3, g3⟩

/-! #### struct type 221 -/
structure S221 where
  f0 : ByteArray
  f1 : Int
  f2 : Int
  f3 : Int
  f4 : Int
  f5 : Int
  f6 : (List S273)
  f7 : ByteArray
def z221 : S221 := ⟨(⟨#[]⟩ : ByteArray), (0 : Int), (0 : Int), (0 : Int), (0 : Int), (0 : Int), ([] : List S273), (⟨#[]⟩ : ByteArray)⟩
def k221 : Kd S221 := Kd.iso (Kd.pair Kd.string (Kd.pair (Kd.int .i64) (Kd.pair (Kd.int .i64) (Kd.pair (Kd.int .i64) (Kd.pair (Kd.int .i64) (Kd.pair (Kd.int .i64) (Kd.pair (Kd.slice 273 k273) Kd.string))))))) (fun x : S221 => (x.f0, x.f1, x.f2, x.f3, x.f4, x.f5, x.f6, x.f7))
theorem k221_open {w : World} {x : S221} {cs : List Value} (h : k221.K w x cs) : ∃ A6 c6, cs = [.string x.f0, .int .i64 x.f1, .int .i64 x.f2, .int .i64 x.f3, .int .i64 x.f4, .int .i64 x.f5, .slice A6 x.f6.length c6, .string x.f7] ∧ x.f6.length ≤ c6 ∧ k273.C w A6 x.f6.length x.f6 := by
  obtain ⟨_, _, rfl, rfl, ⟨_, _, rfl, rfl, ⟨_, _, rfl, rfl, ⟨_, _, rfl, rfl, ⟨_, _, rfl, rfl, ⟨_, _, rfl, rfl, ⟨_, _, rfl, ⟨A6, c6, rfl, l6, g6⟩, rfl⟩⟩⟩⟩⟩⟩⟩ := h
  exact ⟨A6, c6, rfl, l6, g6⟩
/-! #### struct type 274 -/
structure S274 where
  f0 : Int
  f1 : Int
  f2 : ByteArray
  f3 : Int
def z274 : S274 := ⟨(0 : Int), (0 : Int), (⟨#[]⟩ : ByteArray), (0 : Int)⟩
def k274 : Kd S274 := Kd.iso (Kd.pair (Kd.int .i64) (Kd.pair (Kd.int .i64) (Kd.pair Kd.string (Kd.int .i64)))) (fun x : S274 => (x.f0, x.f1, x.f2, x.f3))
theorem k274_open {w : World} {x : S274} {cs : List Value} (h : k274.K w x cs) : cs = [.int .i64 x.f0, .int .i64 x.f1, .string x.f2, .int .i64 x.f3] := by
  obtain ⟨_, _, rfl, rfl, ⟨_, _, rfl, rfl, ⟨_, _, rfl, rfl, rfl⟩⟩⟩ := h
  exact rfl
def rd_T274 (xs : List S274) (i : Int) : S274 := xs.getD i.toNat z274
theorem at_T274 {w : World} {A : Option Addr} {n : Nat} {xs : List S274} (h : Kd.C k274 w A n xs) (i : Int) (h0 : 0 ≤ i) (h1 : i < n) : ∃ ad , A = some ad ∧ w.cell? (ad.add (i.toNat * 4)) = some (.int .i64 (rd_T274 xs i).f0) ∧ w.cell? ⟨(ad.add (i.toNat * 4)).block, (ad.add (i.toNat * 4)).off + 1, none⟩ = some (.int .i64 (rd_T274 xs i).f1) ∧ w.cell? ⟨(ad.add (i.toNat * 4)).block, (ad.add (i.toNat * 4)).off + 2, none⟩ = some (.string (rd_T274 xs i).f2) ∧ w.cell? ⟨(ad.add (i.toNat * 4)).block, (ad.add (i.toNat * 4)).off + 3, none⟩ = some (.int .i64 (rd_T274 xs i).f3) := by
  obtain ⟨ad, c, e, _, hK, hc0⟩ := Kd.C_get h z274 i h0 h1
  have hc : ∀ j u, c[j]? = some u → w.cell? (ad.add (i.toNat * 4 + j)) = some u := hc0
  obtain rfl := k274_open hK
  exact ⟨ad, e, hc 0 _ rfl, by rw [← add_field _ _ 1 (by omega)]; exact hc 1 _ rfl, by rw [← add_field _ _ 2 (by omega)]; exact hc 2 _ rfl, by rw [← add_field _ _ 3 (by omega)]; exact hc 3 _ rfl⟩

/-! #### struct type 223 -/
structure S223 where
  f0 : Int
  f1 : S221
def z223 : S223 := ⟨(0 : Int), z221⟩
def k223 : Kd S223 := Kd.iso (Kd.pair (Kd.int .i64) k221) (fun x : S223 => (x.f0, x.f1))
theorem k223_open {w : World} {x : S223} {cs : List Value} (h : k223.K w x cs) : ∃ A7 c7, cs = [.int .i64 x.f0, .string x.f1.f0, .int .i64 x.f1.f1, .int .i64 x.f1.f2, .int .i64 x.f1.f3, .int .i64 x.f1.f4, .int .i64 x.f1.f5, .slice A7 x.f1.f6.length c7, .string x.f1.f7] ∧ x.f1.f6.length ≤ c7 ∧ k273.C w A7 x.f1.f6.length x.f1.f6 := by
  obtain ⟨_, _, rfl, rfl, s1⟩ := h
  obtain ⟨A7, c7, rfl, l7, g7⟩ := k221_open s1
  exact ⟨A7, c7, rfl, l7, g7⟩
def rd_T223 (xs : List S223) (i : Int) : S223 := xs.getD i.toNat z223
theorem at_T223 {w : World} {A : Option Addr} {n : Nat} {xs : List S223} (h : Kd.C k223 w A n xs) (i : Int) (h0 : 0 ≤ i) (h1 : i < n) : ∃ ad A7 c7, A = some ad ∧ w.cell? (ad.add (i.toNat * 9)) = some (.int .i64 (rd_T223 xs i).f0) ∧ w.cell? ⟨(ad.add (i.toNat * 9)).block, (ad.add (i.toNat * 9)).off + 1, none⟩ = some (.string (rd_T223 xs i).f1.f0) ∧ w.cell? ⟨(ad.add (i.toNat * 9)).block, (ad.add (i.toNat * 9)).off + 2, none⟩ = some (.int .i64 (rd_T223 xs i).f1.f1) ∧ w.cell? ⟨(ad.add (i.toNat * 9)).block, (ad.add (i.toNat * 9)).off + 3, none⟩ = some (.int .i64 (rd_T223 xs i).f1.f2) ∧ w.cell? ⟨(ad.add (i.toNat * 9)).block, (ad.add (i.toNat * 9)).off + 4, none⟩ = some (.int .i64 (rd_T223 xs i).f1.f3) ∧ w.cell? ⟨(ad.add (i.toNat * 9)).block, (ad.add (i.toNat * 9)).off + 5, none⟩ = some (.int .i64 (rd_T223 xs i).f1.f4) ∧ w.cell? ⟨(ad.add (i.toNat * 9)).block, (ad.add (i.toNat * 9)).off + 6, none⟩ = some (.int .i64 (rd_T223 xs i).f1.f5) ∧ w.cell? ⟨(ad.add (i.toNat * 9)).block, (ad.add (i.toNat * 9)).off + 7, none⟩ = some (.slice A7 (rd_T223 xs i).f1.f6.length c7) ∧ w.cell? ⟨(ad.add (i.toNat * 9)).block, (ad.add (i.toNat * 9)).off + 8, none⟩ = some (.string (rd_T223 xs i).f1.f7) ∧ (rd_T223 xs i).f1.f6.length ≤ c7 ∧ k273.C w A7 (rd_T223 xs i).f1.f6.length (rd_T223 xs i).f1.f6 := by
  obtain ⟨ad, c, e, _, hK, hc0⟩ := Kd.C_get h z223 i h0 h1
  have hc : ∀ j u, c[j]? = some u → w.cell? (ad.add (i.toNat * 9 + j)) = some u := hc0
  obtain ⟨A7, c7, rfl, l7, g7⟩ := k223_open hK
  exact ⟨ad, A7, c7, e, hc 0 _ rfl, by rw [← add_field _ _ 1 (by omega)]; exact hc 1 _ rfl, by rw [← add_field _ _ 2 (by omega)]; exact hc 2 _ rfl, by rw [← add_field _ _ 3 (by omega)]; exact hc 3 _ rfl, by rw [← add_field _ _ 4 (by omega)]; exact hc 4 _ rfl, by rw [← add_field _ _ 5 (by omega)]; exact hc 5 _ rfl, by rw [← add_field _ _ 6 (by omega)]; exact hc 6 _ rfl, by rw [← add_field _ _ 7 (by omega)]; exact hc 7 _ rfl, by rw [← add_field _ _ 8 (by omega)]; exact hc 8 _ rfl, l7, g7⟩

/-! #### struct type 65 -/
structure S65 where
  f0 : ByteArray
  f1 : Int
  f2 : (List S274)
  f3 : (List S223)
  f4 : (List Int)
/-! #### struct type 228 -/
structure S228 where
  f0 : Bool
  f1 : ByteArray
def z228 : S228 := ⟨false, (⟨#[]⟩ : ByteArray)⟩
def k228 : Kd S228 := Kd.iso (Kd.pair Kd.bool Kd.string) (fun x : S228 => (x.f0, x.f1))
theorem k228_open {w : World} {x : S228} {cs : List Value} (h : k228.K w x cs) : cs = [.bool x.f0, .string x.f1] := by
  obtain ⟨_, _, rfl, rfl, rfl⟩ := h
  exact rfl
def rd_T228 (xs : List S228) (i : Int) : S228 := xs.getD i.toNat z228
theorem at_T228 {w : World} {A : Option Addr} {n : Nat} {xs : List S228} (h : Kd.C k228 w A n xs) (i : Int) (h0 : 0 ≤ i) (h1 : i < n) : ∃ ad , A = some ad ∧ w.cell? (ad.add (i.toNat * 2)) = some (.bool (rd_T228 xs i).f0) ∧ w.cell? ⟨(ad.add (i.toNat * 2)).block, (ad.add (i.toNat * 2)).off + 1, none⟩ = some (.string (rd_T228 xs i).f1) := by
  obtain ⟨ad, c, e, _, hK, hc0⟩ := Kd.C_get h z228 i h0 h1
  have hc : ∀ j u, c[j]? = some u → w.cell? (ad.add (i.toNat * 2 + j)) = some u := hc0
  obtain rfl := k228_open hK
  exact ⟨ad, e, hc 0 _ rfl, by rw [← add_field _ _ 1 (by omega)]; exact hc 1 _ rfl⟩

/-! #### struct type 230 -/
structure S230 where
  f0 : Int
  f1 : ByteArray
def z230 : S230 := ⟨(0 : Int), (⟨#[]⟩ : ByteArray)⟩
def k230 : Kd S230 := Kd.iso (Kd.pair (Kd.int .i64) Kd.string) (fun x : S230 => (x.f0, x.f1))
theorem k230_open {w : World} {x : S230} {cs : List Value} (h : k230.K w x cs) : cs = [.int .i64 x.f0, .string x.f1] := by
  obtain ⟨_, _, rfl, rfl, rfl⟩ := h
  exact rfl
def rd_T230 (xs : List S230) (i : Int) : S230 := xs.getD i.toNat z230
theorem at_T230 {w : World} {A : Option Addr} {n : Nat} {xs : List S230} (h : Kd.C k230 w A n xs) (i : Int) (h0 : 0 ≤ i) (h1 : i < n) : ∃ ad , A = some ad ∧ w.cell? (ad.add (i.toNat * 2)) = some (.int .i64 (rd_T230 xs i).f0) ∧ w.cell? ⟨(ad.add (i.toNat * 2)).block, (ad.add (i.toNat * 2)).off + 1, none⟩ = some (.string (rd_T230 xs i).f1) := by
  obtain ⟨ad, c, e, _, hK, hc0⟩ := Kd.C_get h z230 i h0 h1
  have hc : ∀ j u, c[j]? = some u → w.cell? (ad.add (i.toNat * 2 + j)) = some u := hc0
  obtain rfl := k230_open hK
  exact ⟨ad, e, hc 0 _ rfl, by rw [← add_field _ _ 1 (by omega)]; exact hc 1 _ rfl⟩

/-! #### struct type 69 -/
structure S69 where
  f0 : S46
  f1 : S65
  f2 : (List S91)
  f3 : (List S228)
  f4 : (List Int)
  f5 : (List S230)
  f6 : (List ByteArray)
  f7 : (List ByteArray)
/-! #### struct type 173 -/
structure S173 where
  f0 : Int
  f1 : (List S91)
def z173 : S173 := ⟨(0 : Int), ([] : List S91)⟩
/-! #### struct type 166 -/
/-! #### struct type 170 -/
def q91 : Zd S91 := Zd.iso (Zd.pair (Zd.int .i64) (Zd.pair Zd.string (Zd.pair Zd.string (Zd.pair (Zd.int .i64) (Zd.pair (Zd.int .i64) (Zd.pair Zd.string (Zd.pair Zd.bool (Zd.pair (Zd.int .i64) (Zd.pair (Zd.int .i64) (Zd.pair (Zd.slice 3 (Zd.int .i64)) (Zd.pair (Zd.slice 9 Zd.string) (Zd.pair (Zd.slice 9 Zd.string) Zd.string)))))))))))) (fun x : S91 => (x.f0, x.f1, x.f2, x.f3, x.f4, x.f5, x.f6, x.f7, x.f8, x.f9, x.f10, x.f11, x.f12))
def G182 (d : Zd S182) : Zd S182 := Zd.iso (Zd.pair (Zd.int .i64) (Zd.pair Zd.string (Zd.slice 182 d))) (fun x : S182 => (x.f0, x.f1, x.f2))
theorem g182 : ZF G182 := ZF.iso _ (ZF.pair (ZF.const _) (ZF.pair (ZF.const _) (ZF.slice 182 ZF.id)))
theorem fold182 {w : World} {x : S182} {cs : List Value} (h : (F182 k182).K w x cs) : k182.K w x cs := by
  obtain ⟨_, _, rfl, rfl, _, _, rfl, rfl, ⟨A2, c2, rfl, l2, h2⟩⟩ := h
  exact k182_mk w x l2 h2
def q182 : Zd S182 := Zd.fix k182 G182 (fun d hd w x cs h => fold182 (by rw [← hd]; exact h))
theorem q182_fold {w : World} {S : FP} {x : S182} {cs : List Value} (h : (G182 q182).M w S x cs) : q182.M w S x cs := Zd.fix_fold _ _ _ g182 h
def q238 : Zd S238 := Zd.iso (Zd.pair (Zd.int .i64) (Zd.int .i64)) (fun x : S238 => (x.f0, x.f1))
def q81 : Zd S81 := Zd.iso (Zd.pair Zd.string (Zd.pair (Zd.int .i64) (Zd.pair (Zd.int .i64) (Zd.pair (Zd.int .i64) (Zd.pair (Zd.int .i64) (Zd.pair (Zd.slice 238 q238) Zd.string)))))) (fun x : S81 => (x.f0, x.f1, x.f2, x.f3, x.f4, x.f5, x.f6))
def q115 : Zd S115 := Zd.iso (Zd.pair Zd.string Zd.string) (fun x : S115 => (x.f0, x.f1))
def q200 : Zd S200 := Zd.iso (Zd.pair (Zd.int .i64) (Zd.pair (Zd.slice 3 (Zd.int .i64)) (Zd.pair Zd.bool (Zd.pair Zd.bool (Zd.int .i64))))) (fun x : S200 => (x.f0, x.f1, x.f2, x.f3, x.f4))
def q202 : Zd S202 := Zd.iso (Zd.pair (Zd.int .i64) (Zd.pair (Zd.slice 3 (Zd.int .i64)) q200)) (fun x : S202 => (x.f0, x.f1, x.f2))
def q205 : Zd S205 := Zd.iso (Zd.pair Zd.string (Zd.pair Zd.string (Zd.int .i64))) (fun x : S205 => (x.f0, x.f1, x.f2))
def q273 : Zd S273 := Zd.iso (Zd.pair (Zd.int .i64) (Zd.pair (Zd.int .i64) (Zd.pair (Zd.slice 9 Zd.string) (Zd.slice 9 Zd.string)))) (fun x : S273 => (x.f0, x.f1, x.f2, x.f3))
def q221 : Zd S221 := Zd.iso (Zd.pair Zd.string (Zd.pair (Zd.int .i64) (Zd.pair (Zd.int .i64) (Zd.pair (Zd.int .i64) (Zd.pair (Zd.int .i64) (Zd.pair (Zd.int .i64) (Zd.pair (Zd.slice 273 q273) Zd.string))))))) (fun x : S221 => (x.f0, x.f1, x.f2, x.f3, x.f4, x.f5, x.f6, x.f7))
def q274 : Zd S274 := Zd.iso (Zd.pair (Zd.int .i64) (Zd.pair (Zd.int .i64) (Zd.pair Zd.string (Zd.int .i64)))) (fun x : S274 => (x.f0, x.f1, x.f2, x.f3))
def q223 : Zd S223 := Zd.iso (Zd.pair (Zd.int .i64) q221) (fun x : S223 => (x.f0, x.f1))
def q228 : Zd S228 := Zd.iso (Zd.pair Zd.bool Zd.string) (fun x : S228 => (x.f0, x.f1))
def q230 : Zd S230 := Zd.iso (Zd.pair (Zd.int .i64) Zd.string) (fun x : S230 => (x.f0, x.f1))
theorem rd_T81_get {xs : List S81} {i : Int} (hl : i.toNat < xs.length) : xs[i.toNat] = rd_T81 xs i := by unfold rd_T81; simp [List.getD_eq_getElem?_getD, hl]
theorem rd_T91_get {xs : List S91} {i : Int} (hl : i.toNat < xs.length) : xs[i.toNat] = rd_T91 xs i := by unfold rd_T91; simp [List.getD_eq_getElem?_getD, hl]
theorem rd_T115_get {xs : List S115} {i : Int} (hl : i.toNat < xs.length) : xs[i.toNat] = rd_T115 xs i := by unfold rd_T115; simp [List.getD_eq_getElem?_getD, hl]
theorem rd_T202_get {xs : List S202} {i : Int} (hl : i.toNat < xs.length) : xs[i.toNat] = rd_T202 xs i := by unfold rd_T202; simp [List.getD_eq_getElem?_getD, hl]
theorem rd_T205_get {xs : List S205} {i : Int} (hl : i.toNat < xs.length) : xs[i.toNat] = rd_T205 xs i := by unfold rd_T205; simp [List.getD_eq_getElem?_getD, hl]
theorem rd_T238_get {xs : List S238} {i : Int} (hl : i.toNat < xs.length) : xs[i.toNat] = rd_T238 xs i := by unfold rd_T238; simp [List.getD_eq_getElem?_getD, hl]
theorem info3 : (Tryz.prog.info? 3).map (fun i => (i.zero, i.size, i.bytes)) = some (some (.int .i64 0), 1, 8) := by kernel_rfl
theorem info5 : (Tryz.prog.info? 5).map (fun i => (i.zero, i.size, i.bytes)) = some (some (.int .u8 0), 1, 1) := by kernel_rfl
theorem info9 : (Tryz.prog.info? 9).map (fun i => (i.zero, i.size, i.bytes)) = some (some (.string ⟨#[]⟩), 1, 16) := by kernel_rfl
theorem info81 : (Tryz.prog.info? 81).map (fun i => (i.zero, i.size, i.bytes)) = some (some (.agg #[.string ⟨#[]⟩, .int .i64 0, .int .i64 0, .int .i64 0, .int .i64 0, .slice none 0 0, .string ⟨#[]⟩]), 7, 88) := by kernel_rfl
theorem info91 : (Tryz.prog.info? 91).map (fun i => (i.zero, i.size, i.bytes)) = some (some (.agg #[.int .i64 0, .string ⟨#[]⟩, .string ⟨#[]⟩, .int .i64 0, .int .i64 0, .string ⟨#[]⟩, .bool false, .int .i64 0, .int .i64 0, .slice none 0 0, .slice none 0 0, .slice none 0 0, .string ⟨#[]⟩]), 13, 184) := by kernel_rfl
theorem info115 : (Tryz.prog.info? 115).map (fun i => (i.zero, i.size, i.bytes)) = some (some (.agg #[.string ⟨#[]⟩, .string ⟨#[]⟩]), 2, 32) := by kernel_rfl
theorem info182 : (Tryz.prog.info? 182).map (fun i => (i.zero, i.size, i.bytes)) = some (some (.agg #[.int .i64 0, .string ⟨#[]⟩, .slice none 0 0]), 3, 48) := by kernel_rfl
theorem info202 : (Tryz.prog.info? 202).map (fun i => (i.zero, i.size, i.bytes)) = some (some (.agg #[.int .i64 0, .slice none 0 0, .int .i64 0, .slice none 0 0, .bool false, .bool false, .int .i64 0]), 7, 80) := by kernel_rfl
theorem info205 : (Tryz.prog.info? 205).map (fun i => (i.zero, i.size, i.bytes)) = some (some (.agg #[.string ⟨#[]⟩, .string ⟨#[]⟩, .int .i64 0]), 3, 40) := by kernel_rfl
theorem info223 : (Tryz.prog.info? 223).map (fun i => (i.zero, i.size, i.bytes)) = some (some (.agg #[.int .i64 0, .string ⟨#[]⟩, .int .i64 0, .int .i64 0, .int .i64 0, .int .i64 0, .int .i64 0, .slice none 0 0, .string ⟨#[]⟩]), 9, 104) := by kernel_rfl
theorem info228 : (Tryz.prog.info? 228).map (fun i => (i.zero, i.size, i.bytes)) = some (some (.agg #[.bool false, .string ⟨#[]⟩]), 2, 24) := by kernel_rfl
theorem info230 : (Tryz.prog.info? 230).map (fun i => (i.zero, i.size, i.bytes)) = some (some (.agg #[.int .i64 0, .string ⟨#[]⟩]), 2, 24) := by kernel_rfl
theorem info238 : (Tryz.prog.info? 238).map (fun i => (i.zero, i.size, i.bytes)) = some (some (.agg #[.int .i64 0, .int .i64 0]), 2, 16) := by kernel_rfl
theorem info273 : (Tryz.prog.info? 273).map (fun i => (i.zero, i.size, i.bytes)) = some (some (.agg #[.int .i64 0, .int .i64 0, .slice none 0 0, .slice none 0 0]), 4, 64) := by kernel_rfl
theorem info274 : (Tryz.prog.info? 274).map (fun i => (i.zero, i.size, i.bytes)) = some (some (.agg #[.int .i64 0, .int .i64 0, .string ⟨#[]⟩, .int .i64 0]), 4, 40) := by kernel_rfl
theorem fl238 : Flat q238 := flat_iso _ (flat_pair (flat_int _) (flat_int _))
theorem fl115 : Flat q115 := flat_iso _ (flat_pair flat_string flat_string)
theorem fl205 : Flat q205 := flat_iso _ (flat_pair flat_string (flat_pair flat_string (flat_int _)))
def u91_0_3 (x : S91) (y : Int) : S91 := { x with f0 := y }
theorem lens91_0_3 : Lens q91 (Zd.int .i64) 0 (fun x => x.f0) u91_0_3 := (Lens.iso (Lens.left (Lens.refl (Zd.int .i64))) _ (fun x : S91 => x.f0) (fun (x : S91) y => { x with f0 := y }) (fun _ => rfl) (fun _ _ => rfl))
def u91_1_9 (x : S91) (y : ByteArray) : S91 := { x with f1 := y }
theorem lens91_1_9 : Lens q91 Zd.string 1 (fun x => x.f1) u91_1_9 := (Lens.iso (Lens.right (a := (Zd.int .i64)) (Lens.left (Lens.refl Zd.string))) _ (fun x : S91 => x.f1) (fun (x : S91) y => { x with f1 := y }) (fun _ => rfl) (fun _ _ => rfl))
def u91_2_9 (x : S91) (y : ByteArray) : S91 := { x with f2 := y }
theorem lens91_2_9 : Lens q91 Zd.string 2 (fun x => x.f2) u91_2_9 := (Lens.iso (Lens.right (a := (Zd.int .i64)) (Lens.right (a := Zd.string) (Lens.left (Lens.refl Zd.string)))) _ (fun x : S91 => x.f2) (fun (x : S91) y => { x with f2 := y }) (fun _ => rfl) (fun _ _ => rfl))
def u91_3_3 (x : S91) (y : Int) : S91 := { x with f3 := y }
theorem lens91_3_3 : Lens q91 (Zd.int .i64) 3 (fun x => x.f3) u91_3_3 := (Lens.iso (Lens.right (a := (Zd.int .i64)) (Lens.right (a := Zd.string) (Lens.right (a := Zd.string) (Lens.left (Lens.refl (Zd.int .i64)))))) _ (fun x : S91 => x.f3) (fun (x : S91) y => { x with f3 := y }) (fun _ => rfl) (fun _ _ => rfl))
def u91_4_3 (x : S91) (y : Int) : S91 := { x with f4 := y }
theorem lens91_4_3 : Lens q91 (Zd.int .i64) 4 (fun x => x.f4) u91_4_3 := (Lens.iso (Lens.right (a := (Zd.int .i64)) (Lens.right (a := Zd.string) (Lens.right (a := Zd.string) (Lens.right (a := (Zd.int .i64)) (Lens.left (Lens.refl (Zd.int .i64))))))) _ (fun x : S91 => x.f4) (fun (x : S91) y => { x with f4 := y }) (fun _ => rfl) (fun _ _ => rfl))
def u91_5_9 (x : S91) (y : ByteArray) : S91 := { x with f5 := y }
theorem lens91_5_9 : Lens q91 Zd.string 5 (fun x => x.f5) u91_5_9 := (Lens.iso (Lens.right (a := (Zd.int .i64)) (Lens.right (a := Zd.string) (Lens.right (a := Zd.string) (Lens.right (a := (Zd.int .i64)) (Lens.right (a := (Zd.int .i64)) (Lens.left (Lens.refl Zd.string))))))) _ (fun x : S91 => x.f5) (fun (x : S91) y => { x with f5 := y }) (fun _ => rfl) (fun _ _ => rfl))
def u91_6_4 (x : S91) (y : Bool) : S91 := { x with f6 := y }
theorem lens91_6_4 : Lens q91 Zd.bool 6 (fun x => x.f6) u91_6_4 := (Lens.iso (Lens.right (a := (Zd.int .i64)) (Lens.right (a := Zd.string) (Lens.right (a := Zd.string) (Lens.right (a := (Zd.int .i64)) (Lens.right (a := (Zd.int .i64)) (Lens.right (a := Zd.string) (Lens.left (Lens.refl Zd.bool)))))))) _ (fun x : S91 => x.f6) (fun (x : S91) y => { x with f6 := y }) (fun _ => rfl) (fun _ _ => rfl))
def u91_7_3 (x : S91) (y : Int) : S91 := { x with f7 := y }
theorem lens91_7_3 : Lens q91 (Zd.int .i64) 7 (fun x => x.f7) u91_7_3 := (Lens.iso (Lens.right (a := (Zd.int .i64)) (Lens.right (a := Zd.string) (Lens.right (a := Zd.string) (Lens.right (a := (Zd.int .i64)) (Lens.right (a := (Zd.int .i64)) (Lens.right (a := Zd.string) (Lens.right (a := Zd.bool) (Lens.left (Lens.refl (Zd.int .i64)))))))))) _ (fun x : S91 => x.f7) (fun (x : S91) y => { x with f7 := y }) (fun _ => rfl) (fun _ _ => rfl))
def u91_8_3 (x : S91) (y : Int) : S91 := { x with f8 := y }
theorem lens91_8_3 : Lens q91 (Zd.int .i64) 8 (fun x => x.f8) u91_8_3 := (Lens.iso (Lens.right (a := (Zd.int .i64)) (Lens.right (a := Zd.string) (Lens.right (a := Zd.string) (Lens.right (a := (Zd.int .i64)) (Lens.right (a := (Zd.int .i64)) (Lens.right (a := Zd.string) (Lens.right (a := Zd.bool) (Lens.right (a := (Zd.int .i64)) (Lens.left (Lens.refl (Zd.int .i64))))))))))) _ (fun x : S91 => x.f8) (fun (x : S91) y => { x with f8 := y }) (fun _ => rfl) (fun _ _ => rfl))
def u91_9_52 (x : S91) (y : (List Int)) : S91 := { x with f9 := y }
theorem lens91_9_52 : Lens q91 (Zd.slice 3 (Zd.int .i64)) 9 (fun x => x.f9) u91_9_52 := (Lens.iso (Lens.right (a := (Zd.int .i64)) (Lens.right (a := Zd.string) (Lens.right (a := Zd.string) (Lens.right (a := (Zd.int .i64)) (Lens.right (a := (Zd.int .i64)) (Lens.right (a := Zd.string) (Lens.right (a := Zd.bool) (Lens.right (a := (Zd.int .i64)) (Lens.right (a := (Zd.int .i64)) (Lens.left (Lens.refl (Zd.slice 3 (Zd.int .i64))))))))))))) _ (fun x : S91 => x.f9) (fun (x : S91) y => { x with f9 := y }) (fun _ => rfl) (fun _ _ => rfl))
def u91_10_57 (x : S91) (y : (List ByteArray)) : S91 := { x with f10 := y }
theorem lens91_10_57 : Lens q91 (Zd.slice 9 Zd.string) 10 (fun x => x.f10) u91_10_57 := (Lens.iso (Lens.right (a := (Zd.int .i64)) (Lens.right (a := Zd.string) (Lens.right (a := Zd.string) (Lens.right (a := (Zd.int .i64)) (Lens.right (a := (Zd.int .i64)) (Lens.right (a := Zd.string) (Lens.right (a := Zd.bool) (Lens.right (a := (Zd.int .i64)) (Lens.right (a := (Zd.int .i64)) (Lens.right (a := (Zd.slice 3 (Zd.int .i64))) (Lens.left (Lens.refl (Zd.slice 9 Zd.string))))))))))))) _ (fun x : S91 => x.f10) (fun (x : S91) y => { x with f10 := y }) (fun _ => rfl) (fun _ _ => rfl))
def u91_11_57 (x : S91) (y : (List ByteArray)) : S91 := { x with f11 := y }
theorem lens91_11_57 : Lens q91 (Zd.slice 9 Zd.string) 11 (fun x => x.f11) u91_11_57 := (Lens.iso (Lens.right (a := (Zd.int .i64)) (Lens.right (a := Zd.string) (Lens.right (a := Zd.string) (Lens.right (a := (Zd.int .i64)) (Lens.right (a := (Zd.int .i64)) (Lens.right (a := Zd.string) (Lens.right (a := Zd.bool) (Lens.right (a := (Zd.int .i64)) (Lens.right (a := (Zd.int .i64)) (Lens.right (a := (Zd.slice 3 (Zd.int .i64))) (Lens.right (a := (Zd.slice 9 Zd.string)) (Lens.left (Lens.refl (Zd.slice 9 Zd.string)))))))))))))) _ (fun x : S91 => x.f11) (fun (x : S91) y => { x with f11 := y }) (fun _ => rfl) (fun _ _ => rfl))
def u91_12_9 (x : S91) (y : ByteArray) : S91 := { x with f12 := y }
theorem lens91_12_9 : Lens q91 Zd.string 12 (fun x => x.f12) u91_12_9 := (Lens.iso (Lens.right (a := (Zd.int .i64)) (Lens.right (a := Zd.string) (Lens.right (a := Zd.string) (Lens.right (a := (Zd.int .i64)) (Lens.right (a := (Zd.int .i64)) (Lens.right (a := Zd.string) (Lens.right (a := Zd.bool) (Lens.right (a := (Zd.int .i64)) (Lens.right (a := (Zd.int .i64)) (Lens.right (a := (Zd.slice 3 (Zd.int .i64))) (Lens.right (a := (Zd.slice 9 Zd.string)) (Lens.right (a := (Zd.slice 9 Zd.string)) (Lens.refl Zd.string))))))))))))) _ (fun x : S91 => x.f12) (fun (x : S91) y => { x with f12 := y }) (fun _ => rfl) (fun _ _ => rfl))
def u238_0_3 (x : S238) (y : Int) : S238 := { x with f0 := y }
theorem lens238_0_3 : Lens q238 (Zd.int .i64) 0 (fun x => x.f0) u238_0_3 := (Lens.iso (Lens.left (Lens.refl (Zd.int .i64))) _ (fun x : S238 => x.f0) (fun (x : S238) y => { x with f0 := y }) (fun _ => rfl) (fun _ _ => rfl))
def u238_1_3 (x : S238) (y : Int) : S238 := { x with f1 := y }
theorem lens238_1_3 : Lens q238 (Zd.int .i64) 1 (fun x => x.f1) u238_1_3 := (Lens.iso (Lens.right (a := (Zd.int .i64)) (Lens.refl (Zd.int .i64))) _ (fun x : S238 => x.f1) (fun (x : S238) y => { x with f1 := y }) (fun _ => rfl) (fun _ _ => rfl))
def u81_0_9 (x : S81) (y : ByteArray) : S81 := { x with f0 := y }
theorem lens81_0_9 : Lens q81 Zd.string 0 (fun x => x.f0) u81_0_9 := (Lens.iso (Lens.left (Lens.refl Zd.string)) _ (fun x : S81 => x.f0) (fun (x : S81) y => { x with f0 := y }) (fun _ => rfl) (fun _ _ => rfl))
def u81_1_3 (x : S81) (y : Int) : S81 := { x with f1 := y }
theorem lens81_1_3 : Lens q81 (Zd.int .i64) 1 (fun x => x.f1) u81_1_3 := (Lens.iso (Lens.right (a := Zd.string) (Lens.left (Lens.refl (Zd.int .i64)))) _ (fun x : S81 => x.f1) (fun (x : S81) y => { x with f1 := y }) (fun _ => rfl) (fun _ _ => rfl))
def u81_2_3 (x : S81) (y : Int) : S81 := { x with f2 := y }
theorem lens81_2_3 : Lens q81 (Zd.int .i64) 2 (fun x => x.f2) u81_2_3 := (Lens.iso (Lens.right (a := Zd.string) (Lens.right (a := (Zd.int .i64)) (Lens.left (Lens.refl (Zd.int .i64))))) _ (fun x : S81 => x.f2) (fun (x : S81) y => { x with f2 := y }) (fun _ => rfl) (fun _ _ => rfl))
def u81_3_3 (x : S81) (y : Int) : S81 := { x with f3 := y }
theorem lens81_3_3 : Lens q81 (Zd.int .i64) 3 (fun x => x.f3) u81_3_3 := (Lens.iso (Lens.right (a := Zd.string) (Lens.right (a := (Zd.int .i64)) (Lens.right (a := (Zd.int .i64)) (Lens.left (Lens.refl (Zd.int .i64)))))) _ (fun x : S81 => x.f3) (fun (x : S81) y => { x with f3 := y }) (fun _ => rfl) (fun _ _ => rfl))
def u81_4_3 (x : S81) (y : Int) : S81 := { x with f4 := y }
theorem lens81_4_3 : Lens q81 (Zd.int .i64) 4 (fun x => x.f4) u81_4_3 := (Lens.iso (Lens.right (a := Zd.string) (Lens.right (a := (Zd.int .i64)) (Lens.right (a := (Zd.int .i64)) (Lens.right (a := (Zd.int .i64)) (Lens.left (Lens.refl (Zd.int .i64))))))) _ (fun x : S81 => x.f4) (fun (x : S81) y => { x with f4 := y }) (fun _ => rfl) (fun _ _ => rfl))
def u81_5_79 (x : S81) (y : (List S238)) : S81 := { x with f5 := y }
theorem lens81_5_79 : Lens q81 (Zd.slice 238 q238) 5 (fun x => x.f5) u81_5_79 := (Lens.iso (Lens.right (a := Zd.string) (Lens.right (a := (Zd.int .i64)) (Lens.right (a := (Zd.int .i64)) (Lens.right (a := (Zd.int .i64)) (Lens.right (a := (Zd.int .i64)) (Lens.left (Lens.refl (Zd.slice 238 q238)))))))) _ (fun x : S81 => x.f5) (fun (x : S81) y => { x with f5 := y }) (fun _ => rfl) (fun _ _ => rfl))
def u81_6_9 (x : S81) (y : ByteArray) : S81 := { x with f6 := y }
theorem lens81_6_9 : Lens q81 Zd.string 6 (fun x => x.f6) u81_6_9 := (Lens.iso (Lens.right (a := Zd.string) (Lens.right (a := (Zd.int .i64)) (Lens.right (a := (Zd.int .i64)) (Lens.right (a := (Zd.int .i64)) (Lens.right (a := (Zd.int .i64)) (Lens.right (a := (Zd.slice 238 q238)) (Lens.refl Zd.string))))))) _ (fun x : S81 => x.f6) (fun (x : S81) y => { x with f6 := y }) (fun _ => rfl) (fun _ _ => rfl))
def u115_0_9 (x : S115) (y : ByteArray) : S115 := { x with f0 := y }
theorem lens115_0_9 : Lens q115 Zd.string 0 (fun x => x.f0) u115_0_9 := (Lens.iso (Lens.left (Lens.refl Zd.string)) _ (fun x : S115 => x.f0) (fun (x : S115) y => { x with f0 := y }) (fun _ => rfl) (fun _ _ => rfl))
def u115_1_9 (x : S115) (y : ByteArray) : S115 := { x with f1 := y }
theorem lens115_1_9 : Lens q115 Zd.string 1 (fun x => x.f1) u115_1_9 := (Lens.iso (Lens.right (a := Zd.string) (Lens.refl Zd.string)) _ (fun x : S115 => x.f1) (fun (x : S115) y => { x with f1 := y }) (fun _ => rfl) (fun _ _ => rfl))
def u202_0_3 (x : S202) (y : Int) : S202 := { x with f0 := y }
theorem lens202_0_3 : Lens q202 (Zd.int .i64) 0 (fun x => x.f0) u202_0_3 := (Lens.iso (Lens.left (Lens.refl (Zd.int .i64))) _ (fun x : S202 => x.f0) (fun (x : S202) y => { x with f0 := y }) (fun _ => rfl) (fun _ _ => rfl))
def u202_1_52 (x : S202) (y : (List Int)) : S202 := { x with f1 := y }
theorem lens202_1_52 : Lens q202 (Zd.slice 3 (Zd.int .i64)) 1 (fun x => x.f1) u202_1_52 := (Lens.iso (Lens.right (a := (Zd.int .i64)) (Lens.left (Lens.refl (Zd.slice 3 (Zd.int .i64))))) _ (fun x : S202 => x.f1) (fun (x : S202) y => { x with f1 := y }) (fun _ => rfl) (fun _ _ => rfl))
def u202_2_3 (x : S202) (y : Int) : S202 := { x with f2.f0 := y }
theorem lens202_2_3 : Lens q202 (Zd.int .i64) 2 (fun x => x.f2.f0) u202_2_3 := (Lens.iso (Lens.right (a := (Zd.int .i64)) (Lens.right (a := (Zd.slice 3 (Zd.int .i64))) (Lens.iso (Lens.left (Lens.refl (Zd.int .i64))) _ (fun x : S200 => x.f0) (fun (x : S200) y => { x with f0 := y }) (fun _ => rfl) (fun _ _ => rfl)))) _ (fun x : S202 => x.f2.f0) (fun (x : S202) y => { x with f2.f0 := y }) (fun _ => rfl) (fun _ _ => rfl))
def u202_3_52 (x : S202) (y : (List Int)) : S202 := { x with f2.f1 := y }
theorem lens202_3_52 : Lens q202 (Zd.slice 3 (Zd.int .i64)) 3 (fun x => x.f2.f1) u202_3_52 := (Lens.iso (Lens.right (a := (Zd.int .i64)) (Lens.right (a := (Zd.slice 3 (Zd.int .i64))) (Lens.iso (Lens.right (a := (Zd.int .i64)) (Lens.left (Lens.refl (Zd.slice 3 (Zd.int .i64))))) _ (fun x : S200 => x.f1) (fun (x : S200) y => { x with f1 := y }) (fun _ => rfl) (fun _ _ => rfl)))) _ (fun x : S202 => x.f2.f1) (fun (x : S202) y => { x with f2.f1 := y }) (fun _ => rfl) (fun _ _ => rfl))
def u202_4_4 (x : S202) (y : Bool) : S202 := { x with f2.f2 := y }
theorem lens202_4_4 : Lens q202 Zd.bool 4 (fun x => x.f2.f2) u202_4_4 := (Lens.iso (Lens.right (a := (Zd.int .i64)) (Lens.right (a := (Zd.slice 3 (Zd.int .i64))) (Lens.iso (Lens.right (a := (Zd.int .i64)) (Lens.right (a := (Zd.slice 3 (Zd.int .i64))) (Lens.left (Lens.refl Zd.bool)))) _ (fun x : S200 => x.f2) (fun (x : S200) y => { x with f2 := y }) (fun _ => rfl) (fun _ _ => rfl)))) _ (fun x : S202 => x.f2.f2) (fun (x : S202) y => { x with f2.f2 := y }) (fun _ => rfl) (fun _ _ => rfl))
def u202_5_4 (x : S202) (y : Bool) : S202 := { x with f2.f3 := y }
theorem lens202_5_4 : Lens q202 Zd.bool 5 (fun x => x.f2.f3) u202_5_4 := (Lens.iso (Lens.right (a := (Zd.int .i64)) (Lens.right (a := (Zd.slice 3 (Zd.int .i64))) (Lens.iso (Lens.right (a := (Zd.int .i64)) (Lens.right (a := (Zd.slice 3 (Zd.int .i64))) (Lens.right (a := Zd.bool) (Lens.left (Lens.refl Zd.bool))))) _ (fun x : S200 => x.f3) (fun (x : S200) y => { x with f3 := y }) (fun _ => rfl) (fun _ _ => rfl)))) _ (fun x : S202 => x.f2.f3) (fun (x : S202) y => { x with f2.f3 := y }) (fun _ => rfl) (fun _ _ => rfl))
def u202_6_3 (x : S202) (y : Int) : S202 := { x with f2.f4 := y }
theorem lens202_6_3 : Lens q202 (Zd.int .i64) 6 (fun x => x.f2.f4) u202_6_3 := (Lens.iso (Lens.right (a := (Zd.int .i64)) (Lens.right (a := (Zd.slice 3 (Zd.int .i64))) (Lens.iso (Lens.right (a := (Zd.int .i64)) (Lens.right (a := (Zd.slice 3 (Zd.int .i64))) (Lens.right (a := Zd.bool) (Lens.right (a := Zd.bool) (Lens.refl (Zd.int .i64)))))) _ (fun x : S200 => x.f4) (fun (x : S200) y => { x with f4 := y }) (fun _ => rfl) (fun _ _ => rfl)))) _ (fun x : S202 => x.f2.f4) (fun (x : S202) y => { x with f2.f4 := y }) (fun _ => rfl) (fun _ _ => rfl))
def u205_0_9 (x : S205) (y : ByteArray) : S205 := { x with f0 := y }
theorem lens205_0_9 : Lens q205 Zd.string 0 (fun x => x.f0) u205_0_9 := (Lens.iso (Lens.left (Lens.refl Zd.string)) _ (fun x : S205 => x.f0) (fun (x : S205) y => { x with f0 := y }) (fun _ => rfl) (fun _ _ => rfl))
def u205_1_9 (x : S205) (y : ByteArray) : S205 := { x with f1 := y }
theorem lens205_1_9 : Lens q205 Zd.string 1 (fun x => x.f1) u205_1_9 := (Lens.iso (Lens.right (a := Zd.string) (Lens.left (Lens.refl Zd.string))) _ (fun x : S205 => x.f1) (fun (x : S205) y => { x with f1 := y }) (fun _ => rfl) (fun _ _ => rfl))
def u205_2_3 (x : S205) (y : Int) : S205 := { x with f2 := y }
theorem lens205_2_3 : Lens q205 (Zd.int .i64) 2 (fun x => x.f2) u205_2_3 := (Lens.iso (Lens.right (a := Zd.string) (Lens.right (a := Zd.string) (Lens.refl (Zd.int .i64)))) _ (fun x : S205 => x.f2) (fun (x : S205) y => { x with f2 := y }) (fun _ => rfl) (fun _ _ => rfl))
theorem q91_zero (w : World) (S : FP) : q91.M w S z91 [.int .i64 0, .string (⟨#[]⟩ : ByteArray), .string (⟨#[]⟩ : ByteArray), .int .i64 0, .int .i64 0, .string (⟨#[]⟩ : ByteArray), .bool false, .int .i64 0, .int .i64 0, .slice none 0 0, .slice none 0 0, .slice none 0 0, .string (⟨#[]⟩ : ByteArray)] := made_none (a := q91) ((pair_app (a := (Zd.int .i64)) (b := (Zd.pair Zd.string (Zd.pair Zd.string (Zd.pair (Zd.int .i64) (Zd.pair (Zd.int .i64) (Zd.pair Zd.string (Zd.pair Zd.bool (Zd.pair (Zd.int .i64) (Zd.pair (Zd.int .i64) (Zd.pair (Zd.slice 3 (Zd.int .i64)) (Zd.pair (Zd.slice 9 Zd.string) (Zd.pair (Zd.slice 9 Zd.string) Zd.string)))))))))))) (w := w) (S := (fun (_ : Nat) (_ : Nat) => False)) (js1 := []) (js2 := []) (x := z91.f0) (y := (z91.f1, (z91.f2, (z91.f3, (z91.f4, (z91.f5, (z91.f6, (z91.f7, (z91.f8, (z91.f9, (z91.f10, (z91.f11, z91.f12)))))))))))) (c0 := [.int .i64 0]) (c1 := [.string (⟨#[]⟩ : ByteArray), .string (⟨#[]⟩ : ByteArray), .int .i64 0, .int .i64 0, .string (⟨#[]⟩ : ByteArray), .bool false, .int .i64 0, .int .i64 0, .slice none 0 0, .slice none 0 0, .slice none 0 0, .string (⟨#[]⟩ : ByteArray)]) hd_none rfl (pair_app (a := Zd.string) (b := (Zd.pair Zd.string (Zd.pair (Zd.int .i64) (Zd.pair (Zd.int .i64) (Zd.pair Zd.string (Zd.pair Zd.bool (Zd.pair (Zd.int .i64) (Zd.pair (Zd.int .i64) (Zd.pair (Zd.slice 3 (Zd.int .i64)) (Zd.pair (Zd.slice 9 Zd.string) (Zd.pair (Zd.slice 9 Zd.string) Zd.string))))))))))) (w := w) (S := (fun (_ : Nat) (_ : Nat) => False)) (js1 := []) (js2 := []) (x := z91.f1) (y := (z91.f2, (z91.f3, (z91.f4, (z91.f5, (z91.f6, (z91.f7, (z91.f8, (z91.f9, (z91.f10, (z91.f11, z91.f12))))))))))) (c0 := [.string (⟨#[]⟩ : ByteArray)]) (c1 := [.string (⟨#[]⟩ : ByteArray), .int .i64 0, .int .i64 0, .string (⟨#[]⟩ : ByteArray), .bool false, .int .i64 0, .int .i64 0, .slice none 0 0, .slice none 0 0, .slice none 0 0, .string (⟨#[]⟩ : ByteArray)]) hd_none rfl (pair_app (a := Zd.string) (b := (Zd.pair (Zd.int .i64) (Zd.pair (Zd.int .i64) (Zd.pair Zd.string (Zd.pair Zd.bool (Zd.pair (Zd.int .i64) (Zd.pair (Zd.int .i64) (Zd.pair (Zd.slice 3 (Zd.int .i64)) (Zd.pair (Zd.slice 9 Zd.string) (Zd.pair (Zd.slice 9 Zd.string) Zd.string)))))))))) (w := w) (S := (fun (_ : Nat) (_ : Nat) => False)) (js1 := []) (js2 := []) (x := z91.f2) (y := (z91.f3, (z91.f4, (z91.f5, (z91.f6, (z91.f7, (z91.f8, (z91.f9, (z91.f10, (z91.f11, z91.f12)))))))))) (c0 := [.string (⟨#[]⟩ : ByteArray)]) (c1 := [.int .i64 0, .int .i64 0, .string (⟨#[]⟩ : ByteArray), .bool false, .int .i64 0, .int .i64 0, .slice none 0 0, .slice none 0 0, .slice none 0 0, .string (⟨#[]⟩ : ByteArray)]) hd_none rfl (pair_app (a := (Zd.int .i64)) (b := (Zd.pair (Zd.int .i64) (Zd.pair Zd.string (Zd.pair Zd.bool (Zd.pair (Zd.int .i64) (Zd.pair (Zd.int .i64) (Zd.pair (Zd.slice 3 (Zd.int .i64)) (Zd.pair (Zd.slice 9 Zd.string) (Zd.pair (Zd.slice 9 Zd.string) Zd.string))))))))) (w := w) (S := (fun (_ : Nat) (_ : Nat) => False)) (js1 := []) (js2 := []) (x := z91.f3) (y := (z91.f4, (z91.f5, (z91.f6, (z91.f7, (z91.f8, (z91.f9, (z91.f10, (z91.f11, z91.f12))))))))) (c0 := [.int .i64 0]) (c1 := [.int .i64 0, .string (⟨#[]⟩ : ByteArray), .bool false, .int .i64 0, .int .i64 0, .slice none 0 0, .slice none 0 0, .slice none 0 0, .string (⟨#[]⟩ : ByteArray)]) hd_none rfl (pair_app (a := (Zd.int .i64)) (b := (Zd.pair Zd.string (Zd.pair Zd.bool (Zd.pair (Zd.int .i64) (Zd.pair (Zd.int .i64) (Zd.pair (Zd.slice 3 (Zd.int .i64)) (Zd.pair (Zd.slice 9 Zd.string) (Zd.pair (Zd.slice 9 Zd.string) Zd.string)))))))) (w := w) (S := (fun (_ : Nat) (_ : Nat) => False)) (js1 := []) (js2 := []) (x := z91.f4) (y := (z91.f5, (z91.f6, (z91.f7, (z91.f8, (z91.f9, (z91.f10, (z91.f11, z91.f12)))))))) (c0 := [.int .i64 0]) (c1 := [.string (⟨#[]⟩ : ByteArray), .bool false, .int .i64 0, .int .i64 0, .slice none 0 0, .slice none 0 0, .slice none 0 0, .string (⟨#[]⟩ : ByteArray)]) hd_none rfl (pair_app (a := Zd.string) (b := (Zd.pair Zd.bool (Zd.pair (Zd.int .i64) (Zd.pair (Zd.int .i64) (Zd.pair (Zd.slice 3 (Zd.int .i64)) (Zd.pair (Zd.slice 9 Zd.string) (Zd.pair (Zd.slice 9 Zd.string) Zd.string))))))) (w := w) (S := (fun (_ : Nat) (_ : Nat) => False)) (js1 := []) (js2 := []) (x := z91.f5) (y := (z91.f6, (z91.f7, (z91.f8, (z91.f9, (z91.f10, (z91.f11, z91.f12))))))) (c0 := [.string (⟨#[]⟩ : ByteArray)]) (c1 := [.bool false, .int .i64 0, .int .i64 0, .slice none 0 0, .slice none 0 0, .slice none 0 0, .string (⟨#[]⟩ : ByteArray)]) hd_none rfl (pair_app (a := Zd.bool) (b := (Zd.pair (Zd.int .i64) (Zd.pair (Zd.int .i64) (Zd.pair (Zd.slice 3 (Zd.int .i64)) (Zd.pair (Zd.slice 9 Zd.string) (Zd.pair (Zd.slice 9 Zd.string) Zd.string)))))) (w := w) (S := (fun (_ : Nat) (_ : Nat) => False)) (js1 := []) (js2 := []) (x := z91.f6) (y := (z91.f7, (z91.f8, (z91.f9, (z91.f10, (z91.f11, z91.f12)))))) (c0 := [.bool false]) (c1 := [.int .i64 0, .int .i64 0, .slice none 0 0, .slice none 0 0, .slice none 0 0, .string (⟨#[]⟩ : ByteArray)]) hd_none rfl (pair_app (a := (Zd.int .i64)) (b := (Zd.pair (Zd.int .i64) (Zd.pair (Zd.slice 3 (Zd.int .i64)) (Zd.pair (Zd.slice 9 Zd.string) (Zd.pair (Zd.slice 9 Zd.string) Zd.string))))) (w := w) (S := (fun (_ : Nat) (_ : Nat) => False)) (js1 := []) (js2 := []) (x := z91.f7) (y := (z91.f8, (z91.f9, (z91.f10, (z91.f11, z91.f12))))) (c0 := [.int .i64 0]) (c1 := [.int .i64 0, .slice none 0 0, .slice none 0 0, .slice none 0 0, .string (⟨#[]⟩ : ByteArray)]) hd_none rfl (pair_app (a := (Zd.int .i64)) (b := (Zd.pair (Zd.slice 3 (Zd.int .i64)) (Zd.pair (Zd.slice 9 Zd.string) (Zd.pair (Zd.slice 9 Zd.string) Zd.string)))) (w := w) (S := (fun (_ : Nat) (_ : Nat) => False)) (js1 := []) (js2 := []) (x := z91.f8) (y := (z91.f9, (z91.f10, (z91.f11, z91.f12)))) (c0 := [.int .i64 0]) (c1 := [.slice none 0 0, .slice none 0 0, .slice none 0 0, .string (⟨#[]⟩ : ByteArray)]) hd_none rfl (pair_app (a := (Zd.slice 3 (Zd.int .i64))) (b := (Zd.pair (Zd.slice 9 Zd.string) (Zd.pair (Zd.slice 9 Zd.string) Zd.string))) (w := w) (S := (fun (_ : Nat) (_ : Nat) => False)) (js1 := []) (js2 := []) (x := z91.f9) (y := (z91.f10, (z91.f11, z91.f12))) (c0 := [.slice none 0 0]) (c1 := [.slice none 0 0, .slice none 0 0, .string (⟨#[]⟩ : ByteArray)]) hd_none row_none (pair_app (a := (Zd.slice 9 Zd.string)) (b := (Zd.pair (Zd.slice 9 Zd.string) Zd.string)) (w := w) (S := (fun (_ : Nat) (_ : Nat) => False)) (js1 := []) (js2 := []) (x := z91.f10) (y := (z91.f11, z91.f12)) (c0 := [.slice none 0 0]) (c1 := [.slice none 0 0, .string (⟨#[]⟩ : ByteArray)]) hd_none row_none (pair_app (a := (Zd.slice 9 Zd.string)) (b := Zd.string) (w := w) (S := (fun (_ : Nat) (_ : Nat) => False)) (js1 := []) (js2 := []) (x := z91.f11) (y := z91.f12) (c0 := [.slice none 0 0]) (c1 := [.string (⟨#[]⟩ : ByteArray)]) hd_none row_none rfl List.nodup_nil) List.nodup_nil) List.nodup_nil) List.nodup_nil) List.nodup_nil) List.nodup_nil) List.nodup_nil) List.nodup_nil) List.nodup_nil) List.nodup_nil) List.nodup_nil) List.nodup_nil))
theorem q91_pack {w : World} {S : Nat → FP} {x : S91} {v0 v1 v2 : Value} {j0 j1 j2 : Nat} (hd : ∀ i j k, i ≠ j → S i k → ¬ S j k) (h0 : (Zd.slice 3 (Zd.int .i64)).M w (S j0) x.f9 [v0]) (h1 : (Zd.slice 9 Zd.string).M w (S j1) x.f10 [v1]) (h2 : (Zd.slice 9 Zd.string).M w (S j2) x.f11 [v2]) (hn : [j0, j1, j2].Nodup) : q91.M w (fun k => ∃ i, i ∈ [j0, j1, j2] ∧ S i k) x [.int .i64 x.f0, .string x.f1, .string x.f2, .int .i64 x.f3, .int .i64 x.f4, .string x.f5, .bool x.f6, .int .i64 x.f7, .int .i64 x.f8, v0, v1, v2, .string x.f12] := ((pair_app (a := (Zd.int .i64)) (b := (Zd.pair Zd.string (Zd.pair Zd.string (Zd.pair (Zd.int .i64) (Zd.pair (Zd.int .i64) (Zd.pair Zd.string (Zd.pair Zd.bool (Zd.pair (Zd.int .i64) (Zd.pair (Zd.int .i64) (Zd.pair (Zd.slice 3 (Zd.int .i64)) (Zd.pair (Zd.slice 9 Zd.string) (Zd.pair (Zd.slice 9 Zd.string) Zd.string)))))))))))) (w := w) (S := S) (js1 := []) (js2 := [j0, j1, j2]) (x := x.f0) (y := (x.f1, (x.f2, (x.f3, (x.f4, (x.f5, (x.f6, (x.f7, (x.f8, (x.f9, (x.f10, (x.f11, x.f12)))))))))))) (c0 := [.int .i64 x.f0]) (c1 := [.string x.f1, .string x.f2, .int .i64 x.f3, .int .i64 x.f4, .string x.f5, .bool x.f6, .int .i64 x.f7, .int .i64 x.f8, v0, v1, v2, .string x.f12]) hd rfl (pair_app (a := Zd.string) (b := (Zd.pair Zd.string (Zd.pair (Zd.int .i64) (Zd.pair (Zd.int .i64) (Zd.pair Zd.string (Zd.pair Zd.bool (Zd.pair (Zd.int .i64) (Zd.pair (Zd.int .i64) (Zd.pair (Zd.slice 3 (Zd.int .i64)) (Zd.pair (Zd.slice 9 Zd.string) (Zd.pair (Zd.slice 9 Zd.string) Zd.string))))))))))) (w := w) (S := S) (js1 := []) (js2 := [j0, j1, j2]) (x := x.f1) (y := (x.f2, (x.f3, (x.f4, (x.f5, (x.f6, (x.f7, (x.f8, (x.f9, (x.f10, (x.f11, x.f12))))))))))) (c0 := [.string x.f1]) (c1 := [.string x.f2, .int .i64 x.f3, .int .i64 x.f4, .string x.f5, .bool x.f6, .int .i64 x.f7, .int .i64 x.f8, v0, v1, v2, .string x.f12]) hd rfl (pair_app (a := Zd.string) (b := (Zd.pair (Zd.int .i64) (Zd.pair (Zd.int .i64) (Zd.pair Zd.string (Zd.pair Zd.bool (Zd.pair (Zd.int .i64) (Zd.pair (Zd.int .i64) (Zd.pair (Zd.slice 3 (Zd.int .i64)) (Zd.pair (Zd.slice 9 Zd.string) (Zd.pair (Zd.slice 9 Zd.string) Zd.string)))))))))) (w := w) (S := S) (js1 := []) (js2 := [j0, j1, j2]) (x := x.f2) (y := (x.f3, (x.f4, (x.f5, (x.f6, (x.f7, (x.f8, (x.f9, (x.f10, (x.f11, x.f12)))))))))) (c0 := [.string x.f2]) (c1 := [.int .i64 x.f3, .int .i64 x.f4, .string x.f5, .bool x.f6, .int .i64 x.f7, .int .i64 x.f8, v0, v1, v2, .string x.f12]) hd rfl (pair_app (a := (Zd.int .i64)) (b := (Zd.pair (Zd.int .i64) (Zd.pair Zd.string (Zd.pair Zd.bool (Zd.pair (Zd.int .i64) (Zd.pair (Zd.int .i64) (Zd.pair (Zd.slice 3 (Zd.int .i64)) (Zd.pair (Zd.slice 9 Zd.string) (Zd.pair (Zd.slice 9 Zd.string) Zd.string))))))))) (w := w) (S := S) (js1 := []) (js2 := [j0, j1, j2]) (x := x.f3) (y := (x.f4, (x.f5, (x.f6, (x.f7, (x.f8, (x.f9, (x.f10, (x.f11, x.f12))))))))) (c0 := [.int .i64 x.f3]) (c1 := [.int .i64 x.f4, .string x.f5, .bool x.f6, .int .i64 x.f7, .int .i64 x.f8, v0, v1, v2, .string x.f12]) hd rfl (pair_app (a := (Zd.int .i64)) (b := (Zd.pair Zd.string (Zd.pair Zd.bool (Zd.pair (Zd.int .i64) (Zd.pair (Zd.int .i64) (Zd.pair (Zd.slice 3 (Zd.int .i64)) (Zd.pair (Zd.slice 9 Zd.string) (Zd.pair (Zd.slice 9 Zd.string) Zd.string)))))))) (w := w) (S := S) (js1 := []) (js2 := [j0, j1, j2]) (x := x.f4) (y := (x.f5, (x.f6, (x.f7, (x.f8, (x.f9, (x.f10, (x.f11, x.f12)))))))) (c0 := [.int .i64 x.f4]) (c1 := [.string x.f5, .bool x.f6, .int .i64 x.f7, .int .i64 x.f8, v0, v1, v2, .string x.f12]) hd rfl (pair_app (a := Zd.string) (b := (Zd.pair Zd.bool (Zd.pair (Zd.int .i64) (Zd.pair (Zd.int .i64) (Zd.pair (Zd.slice 3 (Zd.int .i64)) (Zd.pair (Zd.slice 9 Zd.string) (Zd.pair (Zd.slice 9 Zd.string) Zd.string))))))) (w := w) (S := S) (js1 := []) (js2 := [j0, j1, j2]) (x := x.f5) (y := (x.f6, (x.f7, (x.f8, (x.f9, (x.f10, (x.f11, x.f12))))))) (c0 := [.string x.f5]) (c1 := [.bool x.f6, .int .i64 x.f7, .int .i64 x.f8, v0, v1, v2, .string x.f12]) hd rfl (pair_app (a := Zd.bool) (b := (Zd.pair (Zd.int .i64) (Zd.pair (Zd.int .i64) (Zd.pair (Zd.slice 3 (Zd.int .i64)) (Zd.pair (Zd.slice 9 Zd.string) (Zd.pair (Zd.slice 9 Zd.string) Zd.string)))))) (w := w) (S := S) (js1 := []) (js2 := [j0, j1, j2]) (x := x.f6) (y := (x.f7, (x.f8, (x.f9, (x.f10, (x.f11, x.f12)))))) (c0 := [.bool x.f6]) (c1 := [.int .i64 x.f7, .int .i64 x.f8, v0, v1, v2, .string x.f12]) hd rfl (pair_app (a := (Zd.int .i64)) (b := (Zd.pair (Zd.int .i64) (Zd.pair (Zd.slice 3 (Zd.int .i64)) (Zd.pair (Zd.slice 9 Zd.string) (Zd.pair (Zd.slice 9 Zd.string) Zd.string))))) (w := w) (S := S) (js1 := []) (js2 := [j0, j1, j2]) (x := x.f7) (y := (x.f8, (x.f9, (x.f10, (x.f11, x.f12))))) (c0 := [.int .i64 x.f7]) (c1 := [.int .i64 x.f8, v0, v1, v2, .string x.f12]) hd rfl (pair_app (a := (Zd.int .i64)) (b := (Zd.pair (Zd.slice 3 (Zd.int .i64)) (Zd.pair (Zd.slice 9 Zd.string) (Zd.pair (Zd.slice 9 Zd.string) Zd.string)))) (w := w) (S := S) (js1 := []) (js2 := [j0, j1, j2]) (x := x.f8) (y := (x.f9, (x.f10, (x.f11, x.f12)))) (c0 := [.int .i64 x.f8]) (c1 := [v0, v1, v2, .string x.f12]) hd rfl (pair_app (a := (Zd.slice 3 (Zd.int .i64))) (b := (Zd.pair (Zd.slice 9 Zd.string) (Zd.pair (Zd.slice 9 Zd.string) Zd.string))) (w := w) (S := S) (js1 := [j0]) (js2 := [j1, j2]) (x := x.f9) (y := (x.f10, (x.f11, x.f12))) (c0 := [v0]) (c1 := [v1, v2, .string x.f12]) hd (made_one h0) (pair_app (a := (Zd.slice 9 Zd.string)) (b := (Zd.pair (Zd.slice 9 Zd.string) Zd.string)) (w := w) (S := S) (js1 := [j1]) (js2 := [j2]) (x := x.f10) (y := (x.f11, x.f12)) (c0 := [v1]) (c1 := [v2, .string x.f12]) hd (made_one h1) (pair_app (a := (Zd.slice 9 Zd.string)) (b := Zd.string) (w := w) (S := S) (js1 := [j2]) (js2 := []) (x := x.f11) (y := x.f12) (c0 := [v2]) (c1 := [.string x.f12]) hd (made_one h2) rfl (nod_drop 2 hn)) (nod_drop 1 hn)) hn) hn) hn) hn) hn) hn) hn) hn) hn) hn))
theorem q182_pack {w : World} {S : Nat → FP} {x : S182} {v0 : Value} {j0 : Nat} (hd : ∀ i j k, i ≠ j → S i k → ¬ S j k) (h0 : (Zd.slice 182 q182).M w (S j0) x.f2 [v0]) (hn : [j0].Nodup) : q182.M w (fun k => ∃ i, i ∈ [j0] ∧ S i k) x [.int .i64 x.f0, .string x.f1, v0] := (q182_fold (pair_app (a := (Zd.int .i64)) (b := (Zd.pair Zd.string (Zd.slice 182 q182))) (w := w) (S := S) (js1 := []) (js2 := [j0]) (x := x.f0) (y := (x.f1, x.f2)) (c0 := [.int .i64 x.f0]) (c1 := [.string x.f1, v0]) hd rfl (pair_app (a := Zd.string) (b := (Zd.slice 182 q182)) (w := w) (S := S) (js1 := []) (js2 := [j0]) (x := x.f1) (y := x.f2) (c0 := [.string x.f1]) (c1 := [v0]) hd rfl (made_one h0) hn) hn))
theorem q238_zero (w : World) (S : FP) : q238.M w S z238 [.int .i64 0, .int .i64 0] := made_none (a := q238) ((pair_app (a := (Zd.int .i64)) (b := (Zd.int .i64)) (w := w) (S := (fun (_ : Nat) (_ : Nat) => False)) (js1 := []) (js2 := []) (x := z238.f0) (y := z238.f1) (c0 := [.int .i64 0]) (c1 := [.int .i64 0]) hd_none rfl rfl List.nodup_nil))
theorem q238_flat (w : World) (S : FP) (x : S238) : q238.M w S x [.int .i64 x.f0, .int .i64 x.f1] := made_none (a := q238) ((pair_app (a := (Zd.int .i64)) (b := (Zd.int .i64)) (w := w) (S := (fun (_ : Nat) (_ : Nat) => False)) (js1 := []) (js2 := []) (x := x.f0) (y := x.f1) (c0 := [.int .i64 x.f0]) (c1 := [.int .i64 x.f1]) hd_none rfl rfl List.nodup_nil))
theorem q81_zero (w : World) (S : FP) : q81.M w S z81 [.string (⟨#[]⟩ : ByteArray), .int .i64 0, .int .i64 0, .int .i64 0, .int .i64 0, .slice none 0 0, .string (⟨#[]⟩ : ByteArray)] := made_none (a := q81) ((pair_app (a := Zd.string) (b := (Zd.pair (Zd.int .i64) (Zd.pair (Zd.int .i64) (Zd.pair (Zd.int .i64) (Zd.pair (Zd.int .i64) (Zd.pair (Zd.slice 238 q238) Zd.string)))))) (w := w) (S := (fun (_ : Nat) (_ : Nat) => False)) (js1 := []) (js2 := []) (x := z81.f0) (y := (z81.f1, (z81.f2, (z81.f3, (z81.f4, (z81.f5, z81.f6)))))) (c0 := [.string (⟨#[]⟩ : ByteArray)]) (c1 := [.int .i64 0, .int .i64 0, .int .i64 0, .int .i64 0, .slice none 0 0, .string (⟨#[]⟩ : ByteArray)]) hd_none rfl (pair_app (a := (Zd.int .i64)) (b := (Zd.pair (Zd.int .i64) (Zd.pair (Zd.int .i64) (Zd.pair (Zd.int .i64) (Zd.pair (Zd.slice 238 q238) Zd.string))))) (w := w) (S := (fun (_ : Nat) (_ : Nat) => False)) (js1 := []) (js2 := []) (x := z81.f1) (y := (z81.f2, (z81.f3, (z81.f4, (z81.f5, z81.f6))))) (c0 := [.int .i64 0]) (c1 := [.int .i64 0, .int .i64 0, .int .i64 0, .slice none 0 0, .string (⟨#[]⟩ : ByteArray)]) hd_none rfl (pair_app (a := (Zd.int .i64)) (b := (Zd.pair (Zd.int .i64) (Zd.pair (Zd.int .i64) (Zd.pair (Zd.slice 238 q238) Zd.string)))) (w := w) (S := (fun (_ : Nat) (_ : Nat) => False)) (js1 := []) (js2 := []) (x := z81.f2) (y := (z81.f3, (z81.f4, (z81.f5, z81.f6)))) (c0 := [.int .i64 0]) (c1 := [.int .i64 0, .int .i64 0, .slice none 0 0, .string (⟨#[]⟩ : ByteArray)]) hd_none rfl (pair_app (a := (Zd.int .i64)) (b := (Zd.pair (Zd.int .i64) (Zd.pair (Zd.slice 238 q238) Zd.string))) (w := w) (S := (fun (_ : Nat) (_ : Nat) => False)) (js1 := []) (js2 := []) (x := z81.f3) (y := (z81.f4, (z81.f5, z81.f6))) (c0 := [.int .i64 0]) (c1 := [.int .i64 0, .slice none 0 0, .string (⟨#[]⟩ : ByteArray)]) hd_none rfl (pair_app (a := (Zd.int .i64)) (b := (Zd.pair (Zd.slice 238 q238) Zd.string)) (w := w) (S := (fun (_ : Nat) (_ : Nat) => False)) (js1 := []) (js2 := []) (x := z81.f4) (y := (z81.f5, z81.f6)) (c0 := [.int .i64 0]) (c1 := [.slice none 0 0, .string (⟨#[]⟩ : ByteArray)]) hd_none rfl (pair_app (a := (Zd.slice 238 q238)) (b := Zd.string) (w := w) (S := (fun (_ : Nat) (_ : Nat) => False)) (js1 := []) (js2 := []) (x := z81.f5) (y := z81.f6) (c0 := [.slice none 0 0]) (c1 := [.string (⟨#[]⟩ : ByteArray)]) hd_none row_none rfl List.nodup_nil) List.nodup_nil) List.nodup_nil) List.nodup_nil) List.nodup_nil) List.nodup_nil))
theorem q81_pack {w : World} {S : Nat → FP} {x : S81} {v0 : Value} {j0 : Nat} (hd : ∀ i j k, i ≠ j → S i k → ¬ S j k) (h0 : (Zd.slice 238 q238).M w (S j0) x.f5 [v0]) (hn : [j0].Nodup) : q81.M w (fun k => ∃ i, i ∈ [j0] ∧ S i k) x [.string x.f0, .int .i64 x.f1, .int .i64 x.f2, .int .i64 x.f3, .int .i64 x.f4, v0, .string x.f6] := ((pair_app (a := Zd.string) (b := (Zd.pair (Zd.int .i64) (Zd.pair (Zd.int .i64) (Zd.pair (Zd.int .i64) (Zd.pair (Zd.int .i64) (Zd.pair (Zd.slice 238 q238) Zd.string)))))) (w := w) (S := S) (js1 := []) (js2 := [j0]) (x := x.f0) (y := (x.f1, (x.f2, (x.f3, (x.f4, (x.f5, x.f6)))))) (c0 := [.string x.f0]) (c1 := [.int .i64 x.f1, .int .i64 x.f2, .int .i64 x.f3, .int .i64 x.f4, v0, .string x.f6]) hd rfl (pair_app (a := (Zd.int .i64)) (b := (Zd.pair (Zd.int .i64) (Zd.pair (Zd.int .i64) (Zd.pair (Zd.int .i64) (Zd.pair (Zd.slice 238 q238) Zd.string))))) (w := w) (S := S) (js1 := []) (js2 := [j0]) (x := x.f1) (y := (x.f2, (x.f3, (x.f4, (x.f5, x.f6))))) (c0 := [.int .i64 x.f1]) (c1 := [.int .i64 x.f2, .int .i64 x.f3, .int .i64 x.f4, v0, .string x.f6]) hd rfl (pair_app (a := (Zd.int .i64)) (b := (Zd.pair (Zd.int .i64) (Zd.pair (Zd.int .i64) (Zd.pair (Zd.slice 238 q238) Zd.string)))) (w := w) (S := S) (js1 := []) (js2 := [j0]) (x := x.f2) (y := (x.f3, (x.f4, (x.f5, x.f6)))) (c0 := [.int .i64 x.f2]) (c1 := [.int .i64 x.f3, .int .i64 x.f4, v0, .string x.f6]) hd rfl (pair_app (a := (Zd.int .i64)) (b := (Zd.pair (Zd.int .i64) (Zd.pair (Zd.slice 238 q238) Zd.string))) (w := w) (S := S) (js1 := []) (js2 := [j0]) (x := x.f3) (y := (x.f4, (x.f5, x.f6))) (c0 := [.int .i64 x.f3]) (c1 := [.int .i64 x.f4, v0, .string x.f6]) hd rfl (pair_app (a := (Zd.int .i64)) (b := (Zd.pair (Zd.slice 238 q238) Zd.string)) (w := w) (S := S) (js1 := []) (js2 := [j0]) (x := x.f4) (y := (x.f5, x.f6)) (c0 := [.int .i64 x.f4]) (c1 := [v0, .string x.f6]) hd rfl (pair_app (a := (Zd.slice 238 q238)) (b := Zd.string) (w := w) (S := S) (js1 := [j0]) (js2 := []) (x := x.f5) (y := x.f6) (c0 := [v0]) (c1 := [.string x.f6]) hd (made_one h0) rfl hn) hn) hn) hn) hn) hn))
theorem q115_zero (w : World) (S : FP) : q115.M w S z115 [.string (⟨#[]⟩ : ByteArray), .string (⟨#[]⟩ : ByteArray)] := made_none (a := q115) ((pair_app (a := Zd.string) (b := Zd.string) (w := w) (S := (fun (_ : Nat) (_ : Nat) => False)) (js1 := []) (js2 := []) (x := z115.f0) (y := z115.f1) (c0 := [.string (⟨#[]⟩ : ByteArray)]) (c1 := [.string (⟨#[]⟩ : ByteArray)]) hd_none rfl rfl List.nodup_nil))
theorem q115_flat (w : World) (S : FP) (x : S115) : q115.M w S x [.string x.f0, .string x.f1] := made_none (a := q115) ((pair_app (a := Zd.string) (b := Zd.string) (w := w) (S := (fun (_ : Nat) (_ : Nat) => False)) (js1 := []) (js2 := []) (x := x.f0) (y := x.f1) (c0 := [.string x.f0]) (c1 := [.string x.f1]) hd_none rfl rfl List.nodup_nil))
theorem q202_zero (w : World) (S : FP) : q202.M w S z202 [.int .i64 0, .slice none 0 0, .int .i64 0, .slice none 0 0, .bool false, .bool false, .int .i64 0] := made_none (a := q202) ((pair_app (a := (Zd.int .i64)) (b := (Zd.pair (Zd.slice 3 (Zd.int .i64)) q200)) (w := w) (S := (fun (_ : Nat) (_ : Nat) => False)) (js1 := []) (js2 := []) (x := z202.f0) (y := (z202.f1, z202.f2)) (c0 := [.int .i64 0]) (c1 := [.slice none 0 0, .int .i64 0, .slice none 0 0, .bool false, .bool false, .int .i64 0]) hd_none rfl (pair_app (a := (Zd.slice 3 (Zd.int .i64))) (b := q200) (w := w) (S := (fun (_ : Nat) (_ : Nat) => False)) (js1 := []) (js2 := []) (x := z202.f1) (y := z202.f2) (c0 := [.slice none 0 0]) (c1 := [.int .i64 0, .slice none 0 0, .bool false, .bool false, .int .i64 0]) hd_none row_none (pair_app (a := (Zd.int .i64)) (b := (Zd.pair (Zd.slice 3 (Zd.int .i64)) (Zd.pair Zd.bool (Zd.pair Zd.bool (Zd.int .i64))))) (w := w) (S := (fun (_ : Nat) (_ : Nat) => False)) (js1 := []) (js2 := []) (x := z202.f2.f0) (y := (z202.f2.f1, (z202.f2.f2, (z202.f2.f3, z202.f2.f4)))) (c0 := [.int .i64 0]) (c1 := [.slice none 0 0, .bool false, .bool false, .int .i64 0]) hd_none rfl (pair_app (a := (Zd.slice 3 (Zd.int .i64))) (b := (Zd.pair Zd.bool (Zd.pair Zd.bool (Zd.int .i64)))) (w := w) (S := (fun (_ : Nat) (_ : Nat) => False)) (js1 := []) (js2 := []) (x := z202.f2.f1) (y := (z202.f2.f2, (z202.f2.f3, z202.f2.f4))) (c0 := [.slice none 0 0]) (c1 := [.bool false, .bool false, .int .i64 0]) hd_none row_none (pair_app (a := Zd.bool) (b := (Zd.pair Zd.bool (Zd.int .i64))) (w := w) (S := (fun (_ : Nat) (_ : Nat) => False)) (js1 := []) (js2 := []) (x := z202.f2.f2) (y := (z202.f2.f3, z202.f2.f4)) (c0 := [.bool false]) (c1 := [.bool false, .int .i64 0]) hd_none rfl (pair_app (a := Zd.bool) (b := (Zd.int .i64)) (w := w) (S := (fun (_ : Nat) (_ : Nat) => False)) (js1 := []) (js2 := []) (x := z202.f2.f3) (y := z202.f2.f4) (c0 := [.bool false]) (c1 := [.int .i64 0]) hd_none rfl rfl List.nodup_nil) List.nodup_nil) List.nodup_nil) List.nodup_nil) List.nodup_nil) List.nodup_nil))
theorem q202_pack {w : World} {S : Nat → FP} {x : S202} {v0 v1 : Value} {j0 j1 : Nat} (hd : ∀ i j k, i ≠ j → S i k → ¬ S j k) (h0 : (Zd.slice 3 (Zd.int .i64)).M w (S j0) x.f1 [v0]) (h1 : (Zd.slice 3 (Zd.int .i64)).M w (S j1) x.f2.f1 [v1]) (hn : [j0, j1].Nodup) : q202.M w (fun k => ∃ i, i ∈ [j0, j1] ∧ S i k) x [.int .i64 x.f0, v0, .int .i64 x.f2.f0, v1, .bool x.f2.f2, .bool x.f2.f3, .int .i64 x.f2.f4] := ((pair_app (a := (Zd.int .i64)) (b := (Zd.pair (Zd.slice 3 (Zd.int .i64)) q200)) (w := w) (S := S) (js1 := []) (js2 := [j0, j1]) (x := x.f0) (y := (x.f1, x.f2)) (c0 := [.int .i64 x.f0]) (c1 := [v0, .int .i64 x.f2.f0, v1, .bool x.f2.f2, .bool x.f2.f3, .int .i64 x.f2.f4]) hd rfl (pair_app (a := (Zd.slice 3 (Zd.int .i64))) (b := q200) (w := w) (S := S) (js1 := [j0]) (js2 := [j1]) (x := x.f1) (y := x.f2) (c0 := [v0]) (c1 := [.int .i64 x.f2.f0, v1, .bool x.f2.f2, .bool x.f2.f3, .int .i64 x.f2.f4]) hd (made_one h0) (pair_app (a := (Zd.int .i64)) (b := (Zd.pair (Zd.slice 3 (Zd.int .i64)) (Zd.pair Zd.bool (Zd.pair Zd.bool (Zd.int .i64))))) (w := w) (S := S) (js1 := []) (js2 := [j1]) (x := x.f2.f0) (y := (x.f2.f1, (x.f2.f2, (x.f2.f3, x.f2.f4)))) (c0 := [.int .i64 x.f2.f0]) (c1 := [v1, .bool x.f2.f2, .bool x.f2.f3, .int .i64 x.f2.f4]) hd rfl (pair_app (a := (Zd.slice 3 (Zd.int .i64))) (b := (Zd.pair Zd.bool (Zd.pair Zd.bool (Zd.int .i64)))) (w := w) (S := S) (js1 := [j1]) (js2 := []) (x := x.f2.f1) (y := (x.f2.f2, (x.f2.f3, x.f2.f4))) (c0 := [v1]) (c1 := [.bool x.f2.f2, .bool x.f2.f3, .int .i64 x.f2.f4]) hd (made_one h1) (pair_app (a := Zd.bool) (b := (Zd.pair Zd.bool (Zd.int .i64))) (w := w) (S := S) (js1 := []) (js2 := []) (x := x.f2.f2) (y := (x.f2.f3, x.f2.f4)) (c0 := [.bool x.f2.f2]) (c1 := [.bool x.f2.f3, .int .i64 x.f2.f4]) hd rfl (pair_app (a := Zd.bool) (b := (Zd.int .i64)) (w := w) (S := S) (js1 := []) (js2 := []) (x := x.f2.f3) (y := x.f2.f4) (c0 := [.bool x.f2.f3]) (c1 := [.int .i64 x.f2.f4]) hd rfl rfl List.nodup_nil) List.nodup_nil) (nod_drop 1 hn)) (nod_drop 1 hn)) hn) hn))
theorem q205_zero (w : World) (S : FP) : q205.M w S z205 [.string (⟨#[]⟩ : ByteArray), .string (⟨#[]⟩ : ByteArray), .int .i64 0] := made_none (a := q205) ((pair_app (a := Zd.string) (b := (Zd.pair Zd.string (Zd.int .i64))) (w := w) (S := (fun (_ : Nat) (_ : Nat) => False)) (js1 := []) (js2 := []) (x := z205.f0) (y := (z205.f1, z205.f2)) (c0 := [.string (⟨#[]⟩ : ByteArray)]) (c1 := [.string (⟨#[]⟩ : ByteArray), .int .i64 0]) hd_none rfl (pair_app (a := Zd.string) (b := (Zd.int .i64)) (w := w) (S := (fun (_ : Nat) (_ : Nat) => False)) (js1 := []) (js2 := []) (x := z205.f1) (y := z205.f2) (c0 := [.string (⟨#[]⟩ : ByteArray)]) (c1 := [.int .i64 0]) hd_none rfl rfl List.nodup_nil) List.nodup_nil))
theorem q205_flat (w : World) (S : FP) (x : S205) : q205.M w S x [.string x.f0, .string x.f1, .int .i64 x.f2] := made_none (a := q205) ((pair_app (a := Zd.string) (b := (Zd.pair Zd.string (Zd.int .i64))) (w := w) (S := (fun (_ : Nat) (_ : Nat) => False)) (js1 := []) (js2 := []) (x := x.f0) (y := (x.f1, x.f2)) (c0 := [.string x.f0]) (c1 := [.string x.f1, .int .i64 x.f2]) hd_none rfl (pair_app (a := Zd.string) (b := (Zd.int .i64)) (w := w) (S := (fun (_ : Nat) (_ : Nat) => False)) (js1 := []) (js2 := []) (x := x.f1) (y := x.f2) (c0 := [.string x.f1]) (c1 := [.int .i64 x.f2]) hd_none rfl rfl List.nodup_nil) List.nodup_nil))
theorem q273_zero (w : World) (S : FP) : q273.M w S z273 [.int .i64 0, .int .i64 0, .slice none 0 0, .slice none 0 0] := made_none (a := q273) ((pair_app (a := (Zd.int .i64)) (b := (Zd.pair (Zd.int .i64) (Zd.pair (Zd.slice 9 Zd.string) (Zd.slice 9 Zd.string)))) (w := w) (S := (fun (_ : Nat) (_ : Nat) => False)) (js1 := []) (js2 := []) (x := z273.f0) (y := (z273.f1, (z273.f2, z273.f3))) (c0 := [.int .i64 0]) (c1 := [.int .i64 0, .slice none 0 0, .slice none 0 0]) hd_none rfl (pair_app (a := (Zd.int .i64)) (b := (Zd.pair (Zd.slice 9 Zd.string) (Zd.slice 9 Zd.string))) (w := w) (S := (fun (_ : Nat) (_ : Nat) => False)) (js1 := []) (js2 := []) (x := z273.f1) (y := (z273.f2, z273.f3)) (c0 := [.int .i64 0]) (c1 := [.slice none 0 0, .slice none 0 0]) hd_none rfl (pair_app (a := (Zd.slice 9 Zd.string)) (b := (Zd.slice 9 Zd.string)) (w := w) (S := (fun (_ : Nat) (_ : Nat) => False)) (js1 := []) (js2 := []) (x := z273.f2) (y := z273.f3) (c0 := [.slice none 0 0]) (c1 := [.slice none 0 0]) hd_none row_none row_none List.nodup_nil) List.nodup_nil) List.nodup_nil))
theorem q273_pack {w : World} {S : Nat → FP} {x : S273} {v0 v1 : Value} {j0 j1 : Nat} (hd : ∀ i j k, i ≠ j → S i k → ¬ S j k) (h0 : (Zd.slice 9 Zd.string).M w (S j0) x.f2 [v0]) (h1 : (Zd.slice 9 Zd.string).M w (S j1) x.f3 [v1]) (hn : [j0, j1].Nodup) : q273.M w (fun k => ∃ i, i ∈ [j0, j1] ∧ S i k) x [.int .i64 x.f0, .int .i64 x.f1, v0, v1] := ((pair_app (a := (Zd.int .i64)) (b := (Zd.pair (Zd.int .i64) (Zd.pair (Zd.slice 9 Zd.string) (Zd.slice 9 Zd.string)))) (w := w) (S := S) (js1 := []) (js2 := [j0, j1]) (x := x.f0) (y := (x.f1, (x.f2, x.f3))) (c0 := [.int .i64 x.f0]) (c1 := [.int .i64 x.f1, v0, v1]) hd rfl (pair_app (a := (Zd.int .i64)) (b := (Zd.pair (Zd.slice 9 Zd.string) (Zd.slice 9 Zd.string))) (w := w) (S := S) (js1 := []) (js2 := [j0, j1]) (x := x.f1) (y := (x.f2, x.f3)) (c0 := [.int .i64 x.f1]) (c1 := [v0, v1]) hd rfl (pair_app (a := (Zd.slice 9 Zd.string)) (b := (Zd.slice 9 Zd.string)) (w := w) (S := S) (js1 := [j0]) (js2 := [j1]) (x := x.f2) (y := x.f3) (c0 := [v0]) (c1 := [v1]) hd (made_one h0) (made_one h1) hn) hn) hn))
theorem q274_zero (w : World) (S : FP) : q274.M w S z274 [.int .i64 0, .int .i64 0, .string (⟨#[]⟩ : ByteArray), .int .i64 0] := made_none (a := q274) ((pair_app (a := (Zd.int .i64)) (b := (Zd.pair (Zd.int .i64) (Zd.pair Zd.string (Zd.int .i64)))) (w := w) (S := (fun (_ : Nat) (_ : Nat) => False)) (js1 := []) (js2 := []) (x := z274.f0) (y := (z274.f1, (z274.f2, z274.f3))) (c0 := [.int .i64 0]) (c1 := [.int .i64 0, .string (⟨#[]⟩ : ByteArray), .int .i64 0]) hd_none rfl (pair_app (a := (Zd.int .i64)) (b := (Zd.pair Zd.string (Zd.int .i64))) (w := w) (S := (fun (_ : Nat) (_ : Nat) => False)) (js1 := []) (js2 := []) (x := z274.f1) (y := (z274.f2, z274.f3)) (c0 := [.int .i64 0]) (c1 := [.string (⟨#[]⟩ : ByteArray), .int .i64 0]) hd_none rfl (pair_app (a := Zd.string) (b := (Zd.int .i64)) (w := w) (S := (fun (_ : Nat) (_ : Nat) => False)) (js1 := []) (js2 := []) (x := z274.f2) (y := z274.f3) (c0 := [.string (⟨#[]⟩ : ByteArray)]) (c1 := [.int .i64 0]) hd_none rfl rfl List.nodup_nil) List.nodup_nil) List.nodup_nil))
theorem q274_flat (w : World) (S : FP) (x : S274) : q274.M w S x [.int .i64 x.f0, .int .i64 x.f1, .string x.f2, .int .i64 x.f3] := made_none (a := q274) ((pair_app (a := (Zd.int .i64)) (b := (Zd.pair (Zd.int .i64) (Zd.pair Zd.string (Zd.int .i64)))) (w := w) (S := (fun (_ : Nat) (_ : Nat) => False)) (js1 := []) (js2 := []) (x := x.f0) (y := (x.f1, (x.f2, x.f3))) (c0 := [.int .i64 x.f0]) (c1 := [.int .i64 x.f1, .string x.f2, .int .i64 x.f3]) hd_none rfl (pair_app (a := (Zd.int .i64)) (b := (Zd.pair Zd.string (Zd.int .i64))) (w := w) (S := (fun (_ : Nat) (_ : Nat) => False)) (js1 := []) (js2 := []) (x := x.f1) (y := (x.f2, x.f3)) (c0 := [.int .i64 x.f1]) (c1 := [.string x.f2, .int .i64 x.f3]) hd_none rfl (pair_app (a := Zd.string) (b := (Zd.int .i64)) (w := w) (S := (fun (_ : Nat) (_ : Nat) => False)) (js1 := []) (js2 := []) (x := x.f2) (y := x.f3) (c0 := [.string x.f2]) (c1 := [.int .i64 x.f3]) hd_none rfl rfl List.nodup_nil) List.nodup_nil) List.nodup_nil))
theorem q223_zero (w : World) (S : FP) : q223.M w S z223 [.int .i64 0, .string (⟨#[]⟩ : ByteArray), .int .i64 0, .int .i64 0, .int .i64 0, .int .i64 0, .int .i64 0, .slice none 0 0, .string (⟨#[]⟩ : ByteArray)] := made_none (a := q223) ((pair_app (a := (Zd.int .i64)) (b := q221) (w := w) (S := (fun (_ : Nat) (_ : Nat) => False)) (js1 := []) (js2 := []) (x := z223.f0) (y := z223.f1) (c0 := [.int .i64 0]) (c1 := [.string (⟨#[]⟩ : ByteArray), .int .i64 0, .int .i64 0, .int .i64 0, .int .i64 0, .int .i64 0, .slice none 0 0, .string (⟨#[]⟩ : ByteArray)]) hd_none rfl (pair_app (a := Zd.string) (b := (Zd.pair (Zd.int .i64) (Zd.pair (Zd.int .i64) (Zd.pair (Zd.int .i64) (Zd.pair (Zd.int .i64) (Zd.pair (Zd.int .i64) (Zd.pair (Zd.slice 273 q273) Zd.string))))))) (w := w) (S := (fun (_ : Nat) (_ : Nat) => False)) (js1 := []) (js2 := []) (x := z223.f1.f0) (y := (z223.f1.f1, (z223.f1.f2, (z223.f1.f3, (z223.f1.f4, (z223.f1.f5, (z223.f1.f6, z223.f1.f7))))))) (c0 := [.string (⟨#[]⟩ : ByteArray)]) (c1 := [.int .i64 0, .int .i64 0, .int .i64 0, .int .i64 0, .int .i64 0, .slice none 0 0, .string (⟨#[]⟩ : ByteArray)]) hd_none rfl (pair_app (a := (Zd.int .i64)) (b := (Zd.pair (Zd.int .i64) (Zd.pair (Zd.int .i64) (Zd.pair (Zd.int .i64) (Zd.pair (Zd.int .i64) (Zd.pair (Zd.slice 273 q273) Zd.string)))))) (w := w) (S := (fun (_ : Nat) (_ : Nat) => False)) (js1 := []) (js2 := []) (x := z223.f1.f1) (y := (z223.f1.f2, (z223.f1.f3, (z223.f1.f4, (z223.f1.f5, (z223.f1.f6, z223.f1.f7)))))) (c0 := [.int .i64 0]) (c1 := [.int .i64 0, .int .i64 0, .int .i64 0, .int .i64 0, .slice none 0 0, .string (⟨#[]⟩ : ByteArray)]) hd_none rfl (pair_app (a := (Zd.int .i64)) (b := (Zd.pair (Zd.int .i64) (Zd.pair (Zd.int .i64) (Zd.pair (Zd.int .i64) (Zd.pair (Zd.slice 273 q273) Zd.string))))) (w := w) (S := (fun (_ : Nat) (_ : Nat) => False)) (js1 := []) (js2 := []) (x := z223.f1.f2) (y := (z223.f1.f3, (z223.f1.f4, (z223.f1.f5, (z223.f1.f6, z223.f1.f7))))) (c0 := [.int .i64 0]) (c1 := [.int .i64 0, .int .i64 0, .int .i64 0, .slice none 0 0, .string (⟨#[]⟩ : ByteArray)]) hd_none rfl (pair_app (a := (Zd.int .i64)) (b := (Zd.pair (Zd.int .i64) (Zd.pair (Zd.int .i64) (Zd.pair (Zd.slice 273 q273) Zd.string)))) (w := w) (S := (fun (_ : Nat) (_ : Nat) => False)) (js1 := []) (js2 := []) (x := z223.f1.f3) (y := (z223.f1.f4, (z223.f1.f5, (z223.f1.f6, z223.f1.f7)))) (c0 := [.int .i64 0]) (c1 := [.int .i64 0, .int .i64 0, .slice none 0 0, .string (⟨#[]⟩ : ByteArray)]) hd_none rfl (pair_app (a := (Zd.int .i64)) (b := (Zd.pair (Zd.int .i64) (Zd.pair (Zd.slice 273 q273) Zd.string))) (w := w) (S := (fun (_ : Nat) (_ : Nat) => False)) (js1 := []) (js2 := []) (x := z223.f1.f4) (y := (z223.f1.f5, (z223.f1.f6, z223.f1.f7))) (c0 := [.int .i64 0]) (c1 := [.int .i64 0, .slice none 0 0, .string (⟨#[]⟩ : ByteArray)]) hd_none rfl (pair_app (a := (Zd.int .i64)) (b := (Zd.pair (Zd.slice 273 q273) Zd.string)) (w := w) (S := (fun (_ : Nat) (_ : Nat) => False)) (js1 := []) (js2 := []) (x := z223.f1.f5) (y := (z223.f1.f6, z223.f1.f7)) (c0 := [.int .i64 0]) (c1 := [.slice none 0 0, .string (⟨#[]⟩ : ByteArray)]) hd_none rfl (pair_app (a := (Zd.slice 273 q273)) (b := Zd.string) (w := w) (S := (fun (_ : Nat) (_ : Nat) => False)) (js1 := []) (js2 := []) (x := z223.f1.f6) (y := z223.f1.f7) (c0 := [.slice none 0 0]) (c1 := [.string (⟨#[]⟩ : ByteArray)]) hd_none row_none rfl List.nodup_nil) List.nodup_nil) List.nodup_nil) List.nodup_nil) List.nodup_nil) List.nodup_nil) List.nodup_nil) List.nodup_nil))
theorem q223_pack {w : World} {S : Nat → FP} {x : S223} {v0 : Value} {j0 : Nat} (hd : ∀ i j k, i ≠ j → S i k → ¬ S j k) (h0 : (Zd.slice 273 q273).M w (S j0) x.f1.f6 [v0]) (hn : [j0].Nodup) : q223.M w (fun k => ∃ i, i ∈ [j0] ∧ S i k) x [.int .i64 x.f0, .string x.f1.f0, .int .i64 x.f1.f1, .int .i64 x.f1.f2, .int .i64 x.f1.f3, .int .i64 x.f1.f4, .int .i64 x.f1.f5, v0, .string x.f1.f7] := ((pair_app (a := (Zd.int .i64)) (b := q221) (w := w) (S := S) (js1 := []) (js2 := [j0]) (x := x.f0) (y := x.f1) (c0 := [.int .i64 x.f0]) (c1 := [.string x.f1.f0, .int .i64 x.f1.f1, .int .i64 x.f1.f2, .int .i64 x.f1.f3, .int .i64 x.f1.f4, .int .i64 x.f1.f5, v0, .string x.f1.f7]) hd rfl (pair_app (a := Zd.string) (b := (Zd.pair (Zd.int .i64) (Zd.pair (Zd.int .i64) (Zd.pair (Zd.int .i64) (Zd.pair (Zd.int .i64) (Zd.pair (Zd.int .i64) (Zd.pair (Zd.slice 273 q273) Zd.string))))))) (w := w) (S := S) (js1 := []) (js2 := [j0]) (x := x.f1.f0) (y := (x.f1.f1, (x.f1.f2, (x.f1.f3, (x.f1.f4, (x.f1.f5, (x.f1.f6, x.f1.f7))))))) (c0 := [.string x.f1.f0]) (c1 := [.int .i64 x.f1.f1, .int .i64 x.f1.f2, .int .i64 x.f1.f3, .int .i64 x.f1.f4, .int .i64 x.f1.f5, v0, .string x.f1.f7]) hd rfl (pair_app (a := (Zd.int .i64)) (b := (Zd.pair (Zd.int .i64) (Zd.pair (Zd.int .i64) (Zd.pair (Zd.int .i64) (Zd.pair (Zd.int .i64) (Zd.pair (Zd.slice 273 q273) Zd.string)))))) (w := w) (S := S) (js1 := []) (js2 := [j0]) (x := x.f1.f1) (y := (x.f1.f2, (x.f1.f3, (x.f1.f4, (x.f1.f5, (x.f1.f6, x.f1.f7)))))) (c0 := [.int .i64 x.f1.f1]) (c1 := [.int .i64 x.f1.f2, .int .i64 x.f1.f3, .int .i64 x.f1.f4, .int .i64 x.f1.f5, v0, .string x.f1.f7]) hd rfl (pair_app (a := (Zd.int .i64)) (b := (Zd.pair (Zd.int .i64) (Zd.pair (Zd.int .i64) (Zd.pair (Zd.int .i64) (Zd.pair (Zd.slice 273 q273) Zd.string))))) (w := w) (S := S) (js1 := []) (js2 := [j0]) (x := x.f1.f2) (y := (x.f1.f3, (x.f1.f4, (x.f1.f5, (x.f1.f6, x.f1.f7))))) (c0 := [.int .i64 x.f1.f2]) (c1 := [.int .i64 x.f1.f3, .int .i64 x.f1.f4, .int .i64 x.f1.f5, v0, .string x.f1.f7]) hd rfl (pair_app (a := (Zd.int .i64)) (b := (Zd.pair (Zd.int .i64) (Zd.pair (Zd.int .i64) (Zd.pair (Zd.slice 273 q273) Zd.string)))) (w := w) (S := S) (js1 := []) (js2 := [j0]) (x := x.f1.f3) (y := (x.f1.f4, (x.f1.f5, (x.f1.f6, x.f1.f7)))) (c0 := [.int .i64 x.f1.f3]) (c1 := [.int .i64 x.f1.f4, .int .i64 x.f1.f5, v0, .string x.f1.f7]) hd rfl (pair_app (a := (Zd.int .i64)) (b := (Zd.pair (Zd.int .i64) (Zd.pair (Zd.slice 273 q273) Zd.string))) (w := w) (S := S) (js1 := []) (js2 := [j0]) (x := x.f1.f4) (y := (x.f1.f5, (x.f1.f6, x.f1.f7))) (c0 := [.int .i64 x.f1.f4]) (c1 := [.int .i64 x.f1.f5, v0, .string x.f1.f7]) hd rfl (pair_app (a := (Zd.int .i64)) (b := (Zd.pair (Zd.slice 273 q273) Zd.string)) (w := w) (S := S) (js1 := []) (js2 := [j0]) (x := x.f1.f5) (y := (x.f1.f6, x.f1.f7)) (c0 := [.int .i64 x.f1.f5]) (c1 := [v0, .string x.f1.f7]) hd rfl (pair_app (a := (Zd.slice 273 q273)) (b := Zd.string) (w := w) (S := S) (js1 := [j0]) (js2 := []) (x := x.f1.f6) (y := x.f1.f7) (c0 := [v0]) (c1 := [.string x.f1.f7]) hd (made_one h0) rfl hn) hn) hn) hn) hn) hn) hn) hn))
theorem q228_zero (w : World) (S : FP) : q228.M w S z228 [.bool false, .string (⟨#[]⟩ : ByteArray)] := made_none (a := q228) ((pair_app (a := Zd.bool) (b := Zd.string) (w := w) (S := (fun (_ : Nat) (_ : Nat) => False)) (js1 := []) (js2 := []) (x := z228.f0) (y := z228.f1) (c0 := [.bool false]) (c1 := [.string (⟨#[]⟩ : ByteArray)]) hd_none rfl rfl List.nodup_nil))
theorem q228_flat (w : World) (S : FP) (x : S228) : q228.M w S x [.bool x.f0, .string x.f1] := made_none (a := q228) ((pair_app (a := Zd.bool) (b := Zd.string) (w := w) (S := (fun (_ : Nat) (_ : Nat) => False)) (js1 := []) (js2 := []) (x := x.f0) (y := x.f1) (c0 := [.bool x.f0]) (c1 := [.string x.f1]) hd_none rfl rfl List.nodup_nil))
theorem q230_zero (w : World) (S : FP) : q230.M w S z230 [.int .i64 0, .string (⟨#[]⟩ : ByteArray)] := made_none (a := q230) ((pair_app (a := (Zd.int .i64)) (b := Zd.string) (w := w) (S := (fun (_ : Nat) (_ : Nat) => False)) (js1 := []) (js2 := []) (x := z230.f0) (y := z230.f1) (c0 := [.int .i64 0]) (c1 := [.string (⟨#[]⟩ : ByteArray)]) hd_none rfl rfl List.nodup_nil))
theorem q230_flat (w : World) (S : FP) (x : S230) : q230.M w S x [.int .i64 x.f0, .string x.f1] := made_none (a := q230) ((pair_app (a := (Zd.int .i64)) (b := Zd.string) (w := w) (S := (fun (_ : Nat) (_ : Nat) => False)) (js1 := []) (js2 := []) (x := x.f0) (y := x.f1) (c0 := [.int .i64 x.f0]) (c1 := [.string x.f1]) hd_none rfl rfl List.nodup_nil))
end Go.Proofs.YtacocpknielofaaGreatDoor.F
