/- Functions of the program and of the law, and that their calls do what is written here. -/
import Derived.Test.YtacocpknielofaaGreatDoorZgFnExactShowWorldd
namespace Go.Proofs.YtacocpknielofaaGreatDoor.F
open Go.RowKit Go.Proofs.YtacocpknielofaaGreatDoorW.PrintWords Go.Proofs.YtacocpknielofaaGreatDoorW.PrintLast Go.Proofs.YtacocpknielofaaGreatDoorW.PrintMore Go.Proofs.YtacocpknielofaaGreatDoor.Z
attribute [local go_sem] max2_int min2_int max_two min_two max_three min_three max_four min_four
set_option linter.unusedVariables false
set_option linter.unusedSimpArgs false
set_option maxRecDepth 100000
/-! ### impl_ShowWorld: function 24 -/
def impl_ShowWorld.f (k : Nat) (a0 : S69) : Option (ByteArray) := ((impl_ShowClient.f k a0.f1).bind fun t14 => (if t14.size + (⟨#[115, 101, 114, 118, 101, 114, 32]⟩ : ByteArray).size ≤ 9223372036854775807 then ((impl_shown.f a0.f0.f3).bind fun t16 => (if (t14 ++ (⟨#[115, 101, 114, 118, 101, 114, 32]⟩ : ByteArray)).size + t16.size ≤ 9223372036854775807 then (if ((t14 ++ (⟨#[115, 101, 114, 118, 101, 114, 32]⟩ : ByteArray)) ++ t16).size + (⟨#[32, 107, 110, 111, 119, 115, 32]⟩ : ByteArray).size ≤ 9223372036854775807 then ((impl_Decimal.f (a0.f0.f0.f0.length : Int)).bind fun t19 => (if (((t14 ++ (⟨#[115, 101, 114, 118, 101, 114, 32]⟩ : ByteArray)) ++ t16) ++ (⟨#[32, 107, 110, 111, 119, 115, 32]⟩ : ByteArray)).size + t19.size ≤ 9223372036854775807 then (if ((((t14 ++ (⟨#[115, 101, 114, 118, 101, 114, 32]⟩ : ByteArray)) ++ t16) ++ (⟨#[32, 107, 110, 111, 119, 115, 32]⟩ : ByteArray)) ++ t19).size + (⟨#[32, 107, 101, 101, 112, 115, 32]⟩ : ByteArray).size ≤ 9223372036854775807 then ((impl_Decimal.f (a0.f0.f5.length : Int)).bind fun t22 => (if (((((t14 ++ (⟨#[115, 101, 114, 118, 101, 114, 32]⟩ : ByteArray)) ++ t16) ++ (⟨#[32, 107, 110, 111, 119, 115, 32]⟩ : ByteArray)) ++ t19) ++ (⟨#[32, 107, 101, 101, 112, 115, 32]⟩ : ByteArray)).size + t22.size ≤ 9223372036854775807 then (if ((((((t14 ++ (⟨#[115, 101, 114, 118, 101, 114, 32]⟩ : ByteArray)) ++ t16) ++ (⟨#[32, 107, 110, 111, 119, 115, 32]⟩ : ByteArray)) ++ t19) ++ (⟨#[32, 107, 101, 101, 112, 115, 32]⟩ : ByteArray)) ++ t22).size + (⟨#[10]⟩ : ByteArray).size ≤ 9223372036854775807 then (some (((((((t14 ++ (⟨#[115, 101, 114, 118, 101, 114, 32]⟩ : ByteArray)) ++ t16) ++ (⟨#[32, 107, 110, 111, 119, 115, 32]⟩ : ByteArray)) ++ t19) ++ (⟨#[32, 107, 101, 101, 112, 115, 32]⟩ : ByteArray)) ++ t22) ++ (⟨#[10]⟩ : ByteArray))) else none) else none)) else none) else none)) else none) else none)) else none))
def impl_ShowWorld.T2 : Bool × List (List Nat × List Nat) := (true, [([], []), ([0], [0]), ([1], [1]), ([2], [2]), ([], []), ([4], [4]), ([5, 2], [5]), ([3, 6], [3, 6]), ([7], [7]), ([], []), ([9], [9]), ([10], [10]), ([11], [11]), ([12, 6], [12]), ([8, 13], [8, 13]), ([14], [14]), ([], []), ([16], [16]), ([17], [17]), ([18, 13], [18]), ([15, 19], [15, 19]), ([20], [20]), ([21, 19, 0, 1, 2, 3, 4, 5, 6, 7, 8, 9, 10, 11, 12, 13, 14, 15, 16, 17, 18, 19, 20, 21], [21])])
theorem impl_ShowWorld.tT2 : rtab .any (opsOf Tryz.f24 2) = impl_ShowWorld.T2 := by kernel_rfl
set_option maxHeartbeats 16000000 in
theorem impl_ShowWorld.calls {k : Nat} {a0 : S69} {Ap0 : Option Addr} {np0 cp0 : Nat} {Ap1 : Option Addr} {np1 cp1 : Nat} {Ap2 : Option Addr} {np2 cp2 : Nat} {Ap3 : Option Addr} {np3 cp3 : Nat} {Ap4 : Option Addr} {np4 cp4 : Nat} {Ap5 : Option Addr} {np5 cp5 : Nat} {Ap6 : Option Addr} {np6 cp6 : Nat} {Ap7 : Option Addr} {np7 cp7 : Nat} {Ap8 : Option Addr} {np8 cp8 : Nat} {Ap9 : Option Addr} {np9 cp9 : Nat} {Ap10 : Option Addr} {np10 cp10 : Nat} {Ap11 : Option Addr} {np11 cp11 : Nat} {Ap12 : Option Addr} {np12 cp12 : Nat} {Ap13 : Option Addr} {np13 cp13 : Nat} {r : ByteArray} {w : World} (h : impl_ShowWorld.f k a0 = some r) (gp0 : k91.C w Ap0 np0 a0.f0.f0.f0) (lp0 : np0 ≤ cp0) (gp1 : k81.C w Ap1 np1 a0.f0.f0.f1) (lp1 : np1 ≤ cp1) (gp2 : k115.C w Ap2 np2 a0.f0.f0.f2) (lp2 : np2 ≤ cp2) (gp3 : k202.C w Ap3 np3 a0.f0.f1) (lp3 : np3 ≤ cp3) (gp4 : k205.C w Ap4 np4 a0.f0.f5) (lp4 : np4 ≤ cp4) (gp5 : k274.C w Ap5 np5 a0.f1.f2) (lp5 : np5 ≤ cp5) (gp6 : k223.C w Ap6 np6 a0.f1.f3) (lp6 : np6 ≤ cp6) (gp7 : (Kd.int .i64).C w Ap7 np7 a0.f1.f4) (lp7 : np7 ≤ cp7) (gp8 : k91.C w Ap8 np8 a0.f2) (lp8 : np8 ≤ cp8) (gp9 : k228.C w Ap9 np9 a0.f3) (lp9 : np9 ≤ cp9) (gp10 : (Kd.int .i64).C w Ap10 np10 a0.f4) (lp10 : np10 ≤ cp10) (gp11 : k230.C w Ap11 np11 a0.f5) (lp11 : np11 ≤ cp11) (gp12 : Kd.string.C w Ap12 np12 a0.f6) (lp12 : np12 ≤ cp12) (gp13 : Kd.string.C w Ap13 np13 a0.f7) (lp13 : np13 ≤ cp13) (hgT : Go.Lib.TabIs Tryz.prog w "internal/strconv.uint64pow10" .u64 Go.Lib.pow10Tab) :
    Calls Tryz.prog 24 #[.agg #[.slice Ap0 np0 cp0, .slice Ap1 np1 cp1, .slice Ap2 np2 cp2, .slice Ap3 np3 cp3, .int .i64 a0.f0.f2, .int .i64 a0.f0.f3, .int .i64 a0.f0.f4, .slice Ap4 np4 cp4, .string a0.f1.f0, .int .i64 a0.f1.f1, .slice Ap5 np5 cp5, .slice Ap6 np6 cp6, .slice Ap7 np7 cp7, .slice Ap8 np8 cp8, .slice Ap9 np9 cp9, .slice Ap10 np10 cp10, .slice Ap11 np11 cp11, .slice Ap12 np12 cp12, .slice Ap13 np13 cp13]] w (fun e w' => e = .returned (.string r) ∧ Hp noFP w w' []) := by
 obtain rfl := C_len gp0
 obtain rfl := C_len gp1
 obtain rfl := C_len gp2
 obtain rfl := C_len gp3
 obtain rfl := C_len gp4
 obtain rfl := C_len gp5
 obtain rfl := C_len gp6
 obtain rfl := C_len gp7
 obtain rfl := C_len gp8
 obtain rfl := C_len gp9
 obtain rfl := C_len gp10
 obtain rfl := C_len gp11
 obtain rfl := C_len gp12
 obtain rfl := C_len gp13
 have HS := Hp.start w
 have H := Aside0.mk h
 clear h
 unfold impl_ShowWorld.f at H
 go_enter Tryz.func24, Tryz.ntmps24
 go_wp2_with (first | ((with_reducible refine gd 1 rfl ?_); refine ev_bx HS ?_; clear HS; (try clear F); intro g1 w1 HS F) | ((with_reducible refine gd 3 rfl ?_); refine ev_bx HS ?_; clear HS; (try clear F); intro g3 w3 HS F) | ((with_reducible refine gate_store (p := 3) rfl ?_); refine ev_st 1 0 HS (seg := [.slice Ap0 a0.f0.f0.f0.length cp0, .slice Ap1 a0.f0.f0.f1.length cp1, .slice Ap2 a0.f0.f0.f2.length cp2, .slice Ap3 a0.f0.f1.length cp3, .int .i64 a0.f0.f2, .int .i64 a0.f0.f3, .int .i64 a0.f0.f4, .slice Ap4 a0.f0.f5.length cp4]) ?_; clear HS; (try clear F); intro w5 HS F))
 replace H := zbind H; obtain ⟨t14, ht14, H⟩ := H
 replace H := zgo H; obtain ⟨c15, H⟩ := H
 replace H := zbind H; obtain ⟨t16, ht16, H⟩ := H
 replace H := zgo H; obtain ⟨c17, H⟩ := H
 replace H := zgo H; obtain ⟨c18, H⟩ := H
 replace H := zbind H; obtain ⟨t19, ht19, H⟩ := H
 replace H := zgo H; obtain ⟨c20, H⟩ := H
 replace H := zgo H; obtain ⟨c21, H⟩ := H
 replace H := zbind H; obtain ⟨t22, ht22, H⟩ := H
 replace H := zgo H; obtain ⟨c23, H⟩ := H
 replace H := zgo H; obtain ⟨c25, H⟩ := H
 refine dr_start [] HS #[false, false, false, false, false, false, false, false, false, false, false, false, false, false, false, false, false, false, false, false, false, false, false] (by kernel_rfl) rfl rfl impl_ShowWorld.tT2 (fun w8 HT HS HH => ?_)
 (try clear F)
 refine drq_of [(0, some 6), (1, some 7), (4, some 10), (5, some 11), (9, some 15), (10, some 16), (11, some 17), (12, some 18), (16, some 22), (17, some 23), (18, some 24)] ?_
 repeat (first | refine drp HT ?_ | refine drt HT HH ?_)
 refine drq_end ?_
 refine dr1 2 HT fun K hK => ?_
 refine go_cl HS (impl_ShowClient.calls ht14.out (HS.ro gp5) lp5 (HS.ro gp6) lp6 (HS.ro gp7) lp7 (HS.keept hgT)) Tryz.func96 ?_; clear HS; (try clear F); intro wt14 HS F
 refine nrm 8 hK ⟨_, HS⟩ (fun HH => ?_); clear hK K
 refine dr_pure 3 (some 9) HT (v := .string (t14 ++ (⟨#[115, 101, 114, 118, 101, 114, 32]⟩ : ByteArray))) (a' := ?_) rfl rfl (by kernel_rfl) (fun _ _ _ h => h) (.inl ⟨by rfl, fun w' => (run_cat rfl rfl rfl (of_eq_true c15))⟩) ?_ ?_
 rotate_left
 · simp only [Act.put, ptn]; rfl
 refine dr1 6 HT fun K hK => ?_
 refine go_cl HS (impl_shown.calls ht16.out (HS.keept hgT)) Tryz.func97 ?_; clear HS; (try clear F); intro wt16 HS F
 refine nrm 12 hK ⟨_, HS⟩ (fun HH => ?_); clear hK K
 refine dr_pure 7 (some 13) HT (v := .string ((t14 ++ (⟨#[115, 101, 114, 118, 101, 114, 32]⟩ : ByteArray)) ++ t16)) (a' := ?_) rfl rfl (by kernel_rfl) (fun _ _ _ h => h) (.inl ⟨by rfl, fun w' => (run_cat rfl rfl rfl (of_eq_true c17))⟩) ?_ ?_
 rotate_left
 · simp only [Act.put, ptn]; rfl
 refine dr_pure 8 (some 14) HT (v := .string (((t14 ++ (⟨#[115, 101, 114, 118, 101, 114, 32]⟩ : ByteArray)) ++ t16) ++ (⟨#[32, 107, 110, 111, 119, 115, 32]⟩ : ByteArray))) (a' := ?_) rfl rfl (by kernel_rfl) (fun _ _ _ h => h) (.inl ⟨by rfl, fun w' => (run_cat rfl rfl rfl (of_eq_true c18))⟩) ?_ ?_
 rotate_left
 · simp only [Act.put, ptn]; rfl
 refine dr1 13 HT fun K hK => ?_
 refine go_cl HS (impl_Decimal.calls ht19.out (HS.keept hgT)) Tryz.func98 ?_; clear HS; (try clear F); intro wt19 HS F
 refine nrm 19 hK ⟨_, HS⟩ (fun HH => ?_); clear hK K
 refine dr_pure 14 (some 20) HT (v := .string ((((t14 ++ (⟨#[115, 101, 114, 118, 101, 114, 32]⟩ : ByteArray)) ++ t16) ++ (⟨#[32, 107, 110, 111, 119, 115, 32]⟩ : ByteArray)) ++ t19)) (a' := ?_) rfl rfl (by kernel_rfl) (fun _ _ _ h => h) (.inl ⟨by rfl, fun w' => (run_cat rfl rfl rfl (of_eq_true c20))⟩) ?_ ?_
 rotate_left
 · simp only [Act.put, ptn]; rfl
 refine dr_pure 15 (some 21) HT (v := .string (((((t14 ++ (⟨#[115, 101, 114, 118, 101, 114, 32]⟩ : ByteArray)) ++ t16) ++ (⟨#[32, 107, 110, 111, 119, 115, 32]⟩ : ByteArray)) ++ t19) ++ (⟨#[32, 107, 101, 101, 112, 115, 32]⟩ : ByteArray))) (a' := ?_) rfl rfl (by kernel_rfl) (fun _ _ _ h => h) (.inl ⟨by rfl, fun w' => (run_cat rfl rfl rfl (of_eq_true c21))⟩) ?_ ?_
 rotate_left
 · simp only [Act.put, ptn]; rfl
 refine dr1 19 HT fun K hK => ?_
 refine go_cl HS (impl_Decimal.calls ht22.out (HS.keept hgT)) Tryz.func98 ?_; clear HS; (try clear F); intro wt22 HS F
 refine nrm 25 hK ⟨_, HS⟩ (fun HH => ?_); clear hK K
 refine dr_pure 20 (some 26) HT (v := .string ((((((t14 ++ (⟨#[115, 101, 114, 118, 101, 114, 32]⟩ : ByteArray)) ++ t16) ++ (⟨#[32, 107, 110, 111, 119, 115, 32]⟩ : ByteArray)) ++ t19) ++ (⟨#[32, 107, 101, 101, 112, 115, 32]⟩ : ByteArray)) ++ t22)) (a' := ?_) rfl rfl (by kernel_rfl) (fun _ _ _ h => h) (.inl ⟨by rfl, fun w' => (run_cat rfl rfl rfl (of_eq_true c23))⟩) ?_ ?_
 rotate_left
 · simp only [Act.put, ptn]; rfl
 refine dr_pure 21 (some 27) HT (v := .string (((((((t14 ++ (⟨#[115, 101, 114, 118, 101, 114, 32]⟩ : ByteArray)) ++ t16) ++ (⟨#[32, 107, 110, 111, 119, 115, 32]⟩ : ByteArray)) ++ t19) ++ (⟨#[32, 107, 101, 101, 112, 115, 32]⟩ : ByteArray)) ++ t22) ++ (⟨#[10]⟩ : ByteArray))) (a' := ?_) rfl rfl (by kernel_rfl) (fun _ _ _ h => h) (.inl ⟨by rfl, fun w' => (run_cat rfl rfl rfl (of_eq_true c25))⟩) ?_ ?_
 rotate_left
 · simp only [Act.put, ptn]; rfl
 refine drq_of [(22, some 2)] ?_
 repeat (refine drp HT ?_)
 refine drq_end ?_
 refine done_ (done_of HT.out (by kernel_rfl)) ?_
 (try clear F)
 have F := HS.boxes; simp only [bxn] at F
 obtain rfl := zsome H
 go_wp2
 go_ret
 exact HS.pk
/-! ### laws_eqLetter: function 173 -/
def laws_eqLetter.f (a0 : S228) (a1 : S228) : Option (Bool) := (if a0.f0 = a1.f0 then (if a0.f1.toList = a1.f1.toList then (some true) else (some false)) else (some false))
set_option maxHeartbeats 16000000 in
theorem laws_eqLetter.calls {a0 : S228} {a1 : S228} {r : Bool} {w : World} (h : laws_eqLetter.f a0 a1 = some r) :
    Calls Tryz.prog 173 #[.agg #[.bool a0.f0, .string a0.f1], .agg #[.bool a1.f0, .string a1.f1]] w (fun e w' => e = .returned (.bool r) ∧ Hp noFP w w' []) := by
 have HS := Hp.start w
 have H := Aside0.mk h
 clear h
 unfold laws_eqLetter.f at H
 go_enter Tryz.func173, Tryz.ntmps173
 go_upto_if 9 with (first | ((with_reducible refine gd 2 rfl ?_); refine ev_bx HS ?_; clear HS; (try clear F); intro g2 w2 HS F) | ((with_reducible refine gd 3 rfl ?_); refine ev_bx HS ?_; clear HS; (try clear F); intro g3 w3 HS F))
 replace H := znif' H; rcases H with ⟨c5, H⟩ | ⟨c5, H⟩
 case inl =>
  have c5a := beq_eq_false_iff_ne.mpr c5
  have c5b := bne_iff_ne.mpr c5
  clear c5
  (try simp only [c5a, c5b, dcn])
  obtain rfl := zsome H
  go_wp2
  go_ret
  exact HS.pk
 have c5a := beq_iff_eq.mpr c5
 have c5b := bne_eq_false_iff_eq.mpr c5
 clear c5
 (try simp only [c5a, c5b, dcn])
 replace H := znif' H; rcases H with ⟨c6, H⟩ | ⟨c6, H⟩
 case inl =>
  have c6a := beq_eq_false_iff_ne.mpr c6
  have c6b := bne_iff_ne.mpr c6
  clear c6
  obtain rfl := zsome H
  go_wp2
  go_ret
  exact HS.pk
 have c6a := beq_iff_eq.mpr c6
 have c6b := bne_eq_false_iff_eq.mpr c6
 clear c6
 obtain rfl := zsome H
 go_wp2
 go_ret
 exact HS.pk
/-! ### laws_eqLetterS: function 100 -/
def laws_eqLetterS.l0 : Nat → Int → (List S228) → (List S228) → Option (Bool)
  | 0, _, _, _ => none
  | k + 1, x5, a0, a1 => (if x5 < (a0.length : Int) then (if 0 ≤ x5 then (if x5 < (a0.length : Int) then (if x5 < (a1.length : Int) then ((laws_eqLetter.f (rd_T228 a0 x5) (rd_T228 a1 x5)).bind fun t14 => (if t14 = true then (laws_eqLetterS.l0 k (wrap64 (x5 + 1)) a0 a1) else (some false))) else none) else none) else none) else (some true))
def laws_eqLetterS.f (k : Nat) (a0 : (List S228)) (a1 : (List S228)) : Option (Bool) := (if (a0.length : Int) = (a1.length : Int) then (laws_eqLetterS.l0 k 0 a0 a1) else (some false))
def laws_eqLetterS.T6 : Bool × List (List Nat × List Nat) := (true, [([], []), ([], []), ([0, 1], [0, 1]), ([2], [2]), ([], []), ([], []), ([4, 5], [4, 5]), ([6], [6]), ([3, 7], [3, 7]), ([8], [8])])
theorem laws_eqLetterS.tT6 : rtab .any (opsOf Tryz.f100 6) = laws_eqLetterS.T6 := by kernel_rfl
set_option maxHeartbeats 16000000 in
theorem laws_eqLetterS.calls {k : Nat} {a0 : (List S228)} {a1 : (List S228)} {Ap0 : Option Addr} {np0 cp0 : Nat} {Ap1 : Option Addr} {np1 cp1 : Nat} {r : Bool} {w : World} (h : laws_eqLetterS.f k a0 a1 = some r) (gp0 : k228.C w Ap0 np0 a0) (lp0 : np0 ≤ cp0) (gp1 : k228.C w Ap1 np1 a1) (lp1 : np1 ≤ cp1) :
    Calls Tryz.prog 100 #[.slice Ap0 np0 cp0, .slice Ap1 np1 cp1] w (fun e w' => e = .returned (.bool r) ∧ Hp noFP w w' []) := by
 obtain rfl := C_len gp0
 obtain rfl := C_len gp1
 have HS := Hp.start w
 have H := Aside0.mk h
 clear h
 unfold laws_eqLetterS.f at H
 go_enter Tryz.func100, Tryz.ntmps100
 replace H := znif' H; rcases H with ⟨c1, H⟩ | ⟨c1, H⟩
 case inl =>
  have c1a := beq_eq_false_iff_ne.mpr c1
  have c1b := bne_iff_ne.mpr c1
  clear c1
  obtain rfl := zsome H
  go_wp2
  go_ret
  exact HS.pk
 have c1a := beq_iff_eq.mpr c1
 have c1b := bne_eq_false_iff_eq.mpr c1
 clear c1
 go_wp2
 go_loopg [5] k (fun kq v_5 w' => ∃ (x5 : Int), v_5 = .int .i64 x5 ∧ Aside0 (laws_eqLetterS.l0 kq x5 a0 a1 = some r) ∧ Aside0 (kq ≤ k) ∧ Hp noFP w w' [])
 case atStart => exact ⟨_, rfl, H, ⟨Nat.le_refl _⟩, HS⟩
 case round =>
  clear HS H; (try clear F)
  obtain ⟨x5, rfl, H, HKk4, HS⟩ := hrel
  cases gk with
  | zero => exact absurd H.out (by simp [laws_eqLetterS.l0])
  | succ k4 =>
   simp only [laws_eqLetterS.l0] at H
   replace H := znif H; rcases H with ⟨c7, H⟩ | ⟨c7, H⟩
   case inl =>
    obtain rfl := zsome H
    go_wp2
    go_ret
    exact HS.pk
   (try go_wp2)
   replace H := zgo H; obtain ⟨c3, H⟩ := H
   replace H := zgo H; obtain ⟨c8, H⟩ := H
   obtain ⟨ad10, rfl, e10_0, e10_1⟩ := at_T228 gp0 x5 (of_eq_true c3) (of_eq_true c8)
   replace H := zgo H; obtain ⟨c12, H⟩ := H
   obtain ⟨ad13, rfl, e13_0, e13_1⟩ := at_T228 gp1 x5 (of_eq_true c3) (of_eq_true c12)
   replace H := zbind H; obtain ⟨t14, ht14, H⟩ := H
   refine dr_start [] HS #[false, false, false, false, false, false, false, false, false, false] (by kernel_rfl) rfl rfl laws_eqLetterS.tT6 (fun w9 HT HS HH => ?_)
   (try clear F)
   refine drq_of [(0, some 17), (1, some 18), (2, some 19)] ?_
   repeat (refine drp HT ?_)
   refine drq_end ?_
   refine dr_take 3 (some 20) HT HH (v := ?_) (a' := ?_) rfl rfl (by kernel_rfl) (fun _ _ _ h => h) (.inl ⟨by rfl, ?_⟩) ?_ ?_
   rotate_left
   · rintro w' ⟨rs', HS'⟩; have e10_0 := (HS'.keepc e10_0); have e10_1 := (HS'.keepc e10_1); go_simp; with_reducible rfl
   rotate_left
   · simp only [Act.put, ptn]; rfl
   refine drq_of [(4, some 21), (5, some 22), (6, some 23)] ?_
   repeat (refine drp HT ?_)
   refine drq_end ?_
   refine dr_take 7 (some 24) HT HH (v := ?_) (a' := ?_) rfl rfl (by kernel_rfl) (fun _ _ _ h => h) (.inl ⟨by rfl, ?_⟩) ?_ ?_
   rotate_left
   · rintro w' ⟨rs', HS'⟩; have e13_0 := (HS'.keepc e13_0); have e13_1 := (HS'.keepc e13_1); go_simp; with_reducible rfl
   rotate_left
   · simp only [Act.put, ptn]; rfl
   refine dr1 8 HT fun K hK => ?_
   refine go_cl HS (laws_eqLetter.calls ht14.out) Tryz.func173 ?_; clear HS; (try clear F); intro wt14 HS F
   refine nrm 25 hK ⟨_, HS⟩ (fun HH => ?_); clear hK K
   refine drq_of [(9, some 26)] ?_
   repeat (refine drp HT ?_)
   refine drq_end ?_
   refine done_ (done_of HT.out (by kernel_rfl)) ?_
   replace H := znifb H; rcases H with ⟨c11, H⟩ | ⟨c11, H⟩
   case inl =>
    subst c11
    (try simp only [dcn, if_true, Bool.false_eq_true, if_false])
    obtain rfl := zsome H
    go_wp2
    go_ret
    exact HS.pk
   subst c11
   (try simp only [dcn, if_true, Bool.false_eq_true, if_false])
   go_wp2
   go_roundg k4
   case measure => have := HKk4.out; omega
   case rel => exact ⟨_, rfl, H, ⟨by have := HKk4.out; omega⟩, HS.pick [] (by decide) (by rfl)⟩
/-! ### laws_eqIntS: function 101 -/
def laws_eqIntS.l0 : Nat → Int → (List Int) → (List Int) → Option (Bool)
  | 0, _, _, _ => none
  | k + 1, x5, a0, a1 => (if x5 < (a0.length : Int) then (if 0 ≤ x5 then (if x5 < (a0.length : Int) then (if x5 < (a1.length : Int) then (if (rd a0 x5) = (rd a1 x5) then (laws_eqIntS.l0 k (wrap64 (x5 + 1)) a0 a1) else (some false)) else none) else none) else none) else (some true))
def laws_eqIntS.f (k : Nat) (a0 : (List Int)) (a1 : (List Int)) : Option (Bool) := (if (a0.length : Int) = (a1.length : Int) then (laws_eqIntS.l0 k 0 a0 a1) else (some false))
def laws_eqIntS.T6 : Bool × List (List Nat × List Nat) := (true, [([], []), ([], []), ([0, 1], [0, 1]), ([2], [2]), ([], []), ([], []), ([4, 5], [4, 5]), ([6], [6]), ([3, 7], [3, 7])])
theorem laws_eqIntS.tT6 : rtab .any (opsOf Tryz.f101 6) = laws_eqIntS.T6 := by kernel_rfl
set_option maxHeartbeats 16000000 in
theorem laws_eqIntS.calls {k : Nat} {a0 : (List Int)} {a1 : (List Int)} {Ap0 : Option Addr} {np0 cp0 : Nat} {Ap1 : Option Addr} {np1 cp1 : Nat} {r : Bool} {w : World} (h : laws_eqIntS.f k a0 a1 = some r) (gp0 : (Kd.int .i64).C w Ap0 np0 a0) (lp0 : np0 ≤ cp0) (gp1 : (Kd.int .i64).C w Ap1 np1 a1) (lp1 : np1 ≤ cp1) :
    Calls Tryz.prog 101 #[.slice Ap0 np0 cp0, .slice Ap1 np1 cp1] w (fun e w' => e = .returned (.bool r) ∧ Hp noFP w w' []) := by
 obtain rfl := C_len gp0
 obtain rfl := C_len gp1
 have HS := Hp.start w
 have H := Aside0.mk h
 clear h
 unfold laws_eqIntS.f at H
 go_enter Tryz.func101, Tryz.ntmps101
 replace H := znif' H; rcases H with ⟨c1, H⟩ | ⟨c1, H⟩
 case inl =>
  have c1a := beq_eq_false_iff_ne.mpr c1
  have c1b := bne_iff_ne.mpr c1
  clear c1
  obtain rfl := zsome H
  go_wp2
  go_ret
  exact HS.pk
 have c1a := beq_iff_eq.mpr c1
 have c1b := bne_eq_false_iff_eq.mpr c1
 clear c1
 go_wp2
 go_loopg [5] k (fun kq v_5 w' => ∃ (x5 : Int), v_5 = .int .i64 x5 ∧ Aside0 (laws_eqIntS.l0 kq x5 a0 a1 = some r) ∧ Aside0 (kq ≤ k) ∧ Hp noFP w w' [])
 case atStart => exact ⟨_, rfl, H, ⟨Nat.le_refl _⟩, HS⟩
 case round =>
  clear HS H; (try clear F)
  obtain ⟨x5, rfl, H, HKk4, HS⟩ := hrel
  cases gk with
  | zero => exact absurd H.out (by simp [laws_eqIntS.l0])
  | succ k4 =>
   simp only [laws_eqIntS.l0] at H
   replace H := znif H; rcases H with ⟨c7, H⟩ | ⟨c7, H⟩
   case inl =>
    obtain rfl := zsome H
    go_wp2
    go_ret
    exact HS.pk
   (try go_wp2)
   replace H := zgo H; obtain ⟨c3, H⟩ := H
   replace H := zgo H; obtain ⟨c8, H⟩ := H
   obtain ⟨ad10, rfl, e10_0⟩ := Kd.at_int gp0 x5 (of_eq_true c3) (of_eq_true c8)
   replace H := zgo H; obtain ⟨c12, H⟩ := H
   obtain ⟨ad13, rfl, e13_0⟩ := Kd.at_int gp1 x5 (of_eq_true c3) (of_eq_true c12)
   refine dr_start [] HS #[false, false, false, false, false, false, false, false, false] (by kernel_rfl) rfl rfl laws_eqIntS.tT6 (fun w9 HT HS HH => ?_)
   (try clear F)
   refine drq_of [(0, some 17), (1, some 18), (2, some 19)] ?_
   repeat (refine drp HT ?_)
   refine drq_end ?_
   refine dr_take 3 (some 20) HT HH (v := ?_) (a' := ?_) rfl rfl (by kernel_rfl) (fun _ _ _ h => h) (.inl ⟨by rfl, ?_⟩) ?_ ?_
   rotate_left
   · rintro w' ⟨rs', HS'⟩; have e10_0 := (HS'.keepc e10_0); go_simp; with_reducible rfl
   rotate_left
   · simp only [Act.put, ptn]; rfl
   refine drq_of [(4, some 21), (5, some 22), (6, some 23)] ?_
   repeat (refine drp HT ?_)
   refine drq_end ?_
   refine dr_take 7 (some 24) HT HH (v := ?_) (a' := ?_) rfl rfl (by kernel_rfl) (fun _ _ _ h => h) (.inl ⟨by rfl, ?_⟩) ?_ ?_
   rotate_left
   · rintro w' ⟨rs', HS'⟩; have e13_0 := (HS'.keepc e13_0); go_simp; with_reducible rfl
   rotate_left
   · simp only [Act.put, ptn]; rfl
   refine drq_of [(8, some 25)] ?_
   repeat (refine drp HT ?_)
   refine drq_end ?_
   refine done_ (done_of HT.out (by kernel_rfl)) ?_
   replace H := znif' H; rcases H with ⟨c11, H⟩ | ⟨c11, H⟩
   case inl =>
    have c11a := beq_eq_false_iff_ne.mpr c11
    have c11b := bne_iff_ne.mpr c11
    clear c11
    (try simp only [c11a, c11b, dcn])
    obtain rfl := zsome H
    go_wp2
    go_ret
    exact HS.pk
   have c11a := beq_iff_eq.mpr c11
   have c11b := bne_eq_false_iff_eq.mpr c11
   clear c11
   (try simp only [c11a, c11b, dcn])
   go_wp2
   go_roundg k4
   case measure => have := HKk4.out; omega
   case rel => exact ⟨_, rfl, H, ⟨by have := HKk4.out; omega⟩, HS.pick [] (by decide) (by rfl)⟩
/-! ### laws_eqPose: function 174 -/
def laws_eqPose.f (a0 : S230) (a1 : S230) : Option (Bool) := (if a0.f0 = a1.f0 then (if a0.f1.toList = a1.f1.toList then (some true) else (some false)) else (some false))
set_option maxHeartbeats 16000000 in
theorem laws_eqPose.calls {a0 : S230} {a1 : S230} {r : Bool} {w : World} (h : laws_eqPose.f a0 a1 = some r) :
    Calls Tryz.prog 174 #[.agg #[.int .i64 a0.f0, .string a0.f1], .agg #[.int .i64 a1.f0, .string a1.f1]] w (fun e w' => e = .returned (.bool r) ∧ Hp noFP w w' []) := by
 have HS := Hp.start w
 have H := Aside0.mk h
 clear h
 unfold laws_eqPose.f at H
 go_enter Tryz.func174, Tryz.ntmps174
 go_upto_if 9 with (first | ((with_reducible refine gd 2 rfl ?_); refine ev_bx HS ?_; clear HS; (try clear F); intro g2 w2 HS F) | ((with_reducible refine gd 3 rfl ?_); refine ev_bx HS ?_; clear HS; (try clear F); intro g3 w3 HS F))
 replace H := znif' H; rcases H with ⟨c5, H⟩ | ⟨c5, H⟩
 case inl =>
  have c5a := beq_eq_false_iff_ne.mpr c5
  have c5b := bne_iff_ne.mpr c5
  clear c5
  (try simp only [c5a, c5b, dcn])
  obtain rfl := zsome H
  go_wp2
  go_ret
  exact HS.pk
 have c5a := beq_iff_eq.mpr c5
 have c5b := bne_eq_false_iff_eq.mpr c5
 clear c5
 (try simp only [c5a, c5b, dcn])
 replace H := znif' H; rcases H with ⟨c6, H⟩ | ⟨c6, H⟩
 case inl =>
  have c6a := beq_eq_false_iff_ne.mpr c6
  have c6b := bne_iff_ne.mpr c6
  clear c6
  obtain rfl := zsome H
  go_wp2
  go_ret
  exact HS.pk
 have c6a := beq_iff_eq.mpr c6
 have c6b := bne_eq_false_iff_eq.mpr c6
 clear c6
 obtain rfl := zsome H
 go_wp2
 go_ret
 exact HS.pk
/-! ### laws_eqPoseS: function 102 -/
def laws_eqPoseS.l0 : Nat → Int → (List S230) → (List S230) → Option (Bool)
  | 0, _, _, _ => none
  | k + 1, x5, a0, a1 => (if x5 < (a0.length : Int) then (if 0 ≤ x5 then (if x5 < (a0.length : Int) then (if x5 < (a1.length : Int) then ((laws_eqPose.f (rd_T230 a0 x5) (rd_T230 a1 x5)).bind fun t14 => (if t14 = true then (laws_eqPoseS.l0 k (wrap64 (x5 + 1)) a0 a1) else (some false))) else none) else none) else none) else (some true))
def laws_eqPoseS.f (k : Nat) (a0 : (List S230)) (a1 : (List S230)) : Option (Bool) := (if (a0.length : Int) = (a1.length : Int) then (laws_eqPoseS.l0 k 0 a0 a1) else (some false))
def laws_eqPoseS.T6 : Bool × List (List Nat × List Nat) := (true, [([], []), ([], []), ([0, 1], [0, 1]), ([2], [2]), ([], []), ([], []), ([4, 5], [4, 5]), ([6], [6]), ([3, 7], [3, 7]), ([8], [8])])
theorem laws_eqPoseS.tT6 : rtab .any (opsOf Tryz.f102 6) = laws_eqPoseS.T6 := by kernel_rfl
set_option maxHeartbeats 16000000 in
theorem laws_eqPoseS.calls {k : Nat} {a0 : (List S230)} {a1 : (List S230)} {Ap0 : Option Addr} {np0 cp0 : Nat} {Ap1 : Option Addr} {np1 cp1 : Nat} {r : Bool} {w : World} (h : laws_eqPoseS.f k a0 a1 = some r) (gp0 : k230.C w Ap0 np0 a0) (lp0 : np0 ≤ cp0) (gp1 : k230.C w Ap1 np1 a1) (lp1 : np1 ≤ cp1) :
    Calls Tryz.prog 102 #[.slice Ap0 np0 cp0, .slice Ap1 np1 cp1] w (fun e w' => e = .returned (.bool r) ∧ Hp noFP w w' []) := by
 obtain rfl := C_len gp0
 obtain rfl := C_len gp1
 have HS := Hp.start w
 have H := Aside0.mk h
 clear h
 unfold laws_eqPoseS.f at H
 go_enter Tryz.func102, Tryz.ntmps102
 replace H := znif' H; rcases H with ⟨c1, H⟩ | ⟨c1, H⟩
 case inl =>
  have c1a := beq_eq_false_iff_ne.mpr c1
  have c1b := bne_iff_ne.mpr c1
  clear c1
  obtain rfl := zsome H
  go_wp2
  go_ret
  exact HS.pk
 have c1a := beq_iff_eq.mpr c1
 have c1b := bne_eq_false_iff_eq.mpr c1
 clear c1
 go_wp2
 go_loopg [5] k (fun kq v_5 w' => ∃ (x5 : Int), v_5 = .int .i64 x5 ∧ Aside0 (laws_eqPoseS.l0 kq x5 a0 a1 = some r) ∧ Aside0 (kq ≤ k) ∧ Hp noFP w w' [])
 case atStart => exact ⟨_, rfl, H, ⟨Nat.le_refl _⟩, HS⟩
 case round =>
  clear HS H; (try clear F)
  obtain ⟨x5, rfl, H, HKk4, HS⟩ := hrel
  cases gk with
  | zero => exact absurd H.out (by simp [laws_eqPoseS.l0])
  | succ k4 =>
   simp only [laws_eqPoseS.l0] at H
   replace H := znif H; rcases H with ⟨c7, H⟩ | ⟨c7, H⟩
   case inl =>
    obtain rfl := zsome H
    go_wp2
    go_ret
    exact HS.pk
   (try go_wp2)
   replace H := zgo H; obtain ⟨c3, H⟩ := H
   replace H := zgo H; obtain ⟨c8, H⟩ := H
   obtain ⟨ad10, rfl, e10_0, e10_1⟩ := at_T230 gp0 x5 (of_eq_true c3) (of_eq_true c8)
   replace H := zgo H; obtain ⟨c12, H⟩ := H
   obtain ⟨ad13, rfl, e13_0, e13_1⟩ := at_T230 gp1 x5 (of_eq_true c3) (of_eq_true c12)
   replace H := zbind H; obtain ⟨t14, ht14, H⟩ := H
   refine dr_start [] HS #[false, false, false, false, false, false, false, false, false, false] (by kernel_rfl) rfl rfl laws_eqPoseS.tT6 (fun w9 HT HS HH => ?_)
   (try clear F)
   refine drq_of [(0, some 17), (1, some 18), (2, some 19)] ?_
   repeat (refine drp HT ?_)
   refine drq_end ?_
   refine dr_take 3 (some 20) HT HH (v := ?_) (a' := ?_) rfl rfl (by kernel_rfl) (fun _ _ _ h => h) (.inl ⟨by rfl, ?_⟩) ?_ ?_
   rotate_left
   · rintro w' ⟨rs', HS'⟩; have e10_0 := (HS'.keepc e10_0); have e10_1 := (HS'.keepc e10_1); go_simp; with_reducible rfl
   rotate_left
   · simp only [Act.put, ptn]; rfl
   refine drq_of [(4, some 21), (5, some 22), (6, some 23)] ?_
   repeat (refine drp HT ?_)
   refine drq_end ?_
   refine dr_take 7 (some 24) HT HH (v := ?_) (a' := ?_) rfl rfl (by kernel_rfl) (fun _ _ _ h => h) (.inl ⟨by rfl, ?_⟩) ?_ ?_
   rotate_left
   · rintro w' ⟨rs', HS'⟩; have e13_0 := (HS'.keepc e13_0); have e13_1 := (HS'.keepc e13_1); go_simp; with_reducible rfl
   rotate_left
   · simp only [Act.put, ptn]; rfl
   refine dr1 8 HT fun K hK => ?_
   refine go_cl HS (laws_eqPose.calls ht14.out) Tryz.func174 ?_; clear HS; (try clear F); intro wt14 HS F
   refine nrm 25 hK ⟨_, HS⟩ (fun HH => ?_); clear hK K
   refine drq_of [(9, some 26)] ?_
   repeat (refine drp HT ?_)
   refine drq_end ?_
   refine done_ (done_of HT.out (by kernel_rfl)) ?_
   replace H := znifb H; rcases H with ⟨c11, H⟩ | ⟨c11, H⟩
   case inl =>
    subst c11
    (try simp only [dcn, if_true, Bool.false_eq_true, if_false])
    obtain rfl := zsome H
    go_wp2
    go_ret
    exact HS.pk
   subst c11
   (try simp only [dcn, if_true, Bool.false_eq_true, if_false])
   go_wp2
   go_roundg k4
   case measure => have := HKk4.out; omega
   case rel => exact ⟨_, rfl, H, ⟨by have := HKk4.out; omega⟩, HS.pick [] (by decide) (by rfl)⟩
/-! ### laws_eqStringS: function 103 -/
def laws_eqStringS.l0 : Nat → Int → (List ByteArray) → (List ByteArray) → Option (Bool)
  | 0, _, _, _ => none
  | k + 1, x5, a0, a1 => (if x5 < (a0.length : Int) then (if 0 ≤ x5 then (if x5 < (a0.length : Int) then (if x5 < (a1.length : Int) then (if (rdOf ByteArray.empty a0 x5).toList = (rdOf ByteArray.empty a1 x5).toList then (laws_eqStringS.l0 k (wrap64 (x5 + 1)) a0 a1) else (some false)) else none) else none) else none) else (some true))
def laws_eqStringS.f (k : Nat) (a0 : (List ByteArray)) (a1 : (List ByteArray)) : Option (Bool) := (if (a0.length : Int) = (a1.length : Int) then (laws_eqStringS.l0 k 0 a0 a1) else (some false))
def laws_eqStringS.T6 : Bool × List (List Nat × List Nat) := (true, [([], []), ([], []), ([0, 1], [0, 1]), ([2], [2]), ([], []), ([], []), ([4, 5], [4, 5]), ([6], [6]), ([3, 7], [3, 7])])
theorem laws_eqStringS.tT6 : rtab .any (opsOf Tryz.f103 6) = laws_eqStringS.T6 := by kernel_rfl
set_option maxHeartbeats 16000000 in
theorem laws_eqStringS.calls {k : Nat} {a0 : (List ByteArray)} {a1 : (List ByteArray)} {Ap0 : Option Addr} {np0 cp0 : Nat} {Ap1 : Option Addr} {np1 cp1 : Nat} {r : Bool} {w : World} (h : laws_eqStringS.f k a0 a1 = some r) (gp0 : Kd.string.C w Ap0 np0 a0) (lp0 : np0 ≤ cp0) (gp1 : Kd.string.C w Ap1 np1 a1) (lp1 : np1 ≤ cp1) :
    Calls Tryz.prog 103 #[.slice Ap0 np0 cp0, .slice Ap1 np1 cp1] w (fun e w' => e = .returned (.bool r) ∧ Hp noFP w w' []) := by
 obtain rfl := C_len gp0
 obtain rfl := C_len gp1
 have HS := Hp.start w
 have H := Aside0.mk h
 clear h
 unfold laws_eqStringS.f at H
 go_enter Tryz.func103, Tryz.ntmps103
 replace H := znif' H; rcases H with ⟨c1, H⟩ | ⟨c1, H⟩
 case inl =>
  have c1a := beq_eq_false_iff_ne.mpr c1
  have c1b := bne_iff_ne.mpr c1
  clear c1
  obtain rfl := zsome H
  go_wp2
  go_ret
  exact HS.pk
 have c1a := beq_iff_eq.mpr c1
 have c1b := bne_eq_false_iff_eq.mpr c1
 clear c1
 go_wp2
 go_loopg [5] k (fun kq v_5 w' => ∃ (x5 : Int), v_5 = .int .i64 x5 ∧ Aside0 (laws_eqStringS.l0 kq x5 a0 a1 = some r) ∧ Aside0 (kq ≤ k) ∧ Hp noFP w w' [])
 case atStart => exact ⟨_, rfl, H, ⟨Nat.le_refl _⟩, HS⟩
 case round =>
  clear HS H; (try clear F)
  obtain ⟨x5, rfl, H, HKk4, HS⟩ := hrel
  cases gk with
  | zero => exact absurd H.out (by simp [laws_eqStringS.l0])
  | succ k4 =>
   simp only [laws_eqStringS.l0] at H
   replace H := znif H; rcases H with ⟨c7, H⟩ | ⟨c7, H⟩
   case inl =>
    obtain rfl := zsome H
    go_wp2
    go_ret
    exact HS.pk
   (try go_wp2)
   replace H := zgo H; obtain ⟨c3, H⟩ := H
   replace H := zgo H; obtain ⟨c8, H⟩ := H
   obtain ⟨ad10, rfl, e10_0⟩ := Kd.at_string gp0 x5 (of_eq_true c3) (of_eq_true c8)
   replace H := zgo H; obtain ⟨c12, H⟩ := H
   obtain ⟨ad13, rfl, e13_0⟩ := Kd.at_string gp1 x5 (of_eq_true c3) (of_eq_true c12)
   refine dr_start [] HS #[false, false, false, false, false, false, false, false, false] (by kernel_rfl) rfl rfl laws_eqStringS.tT6 (fun w9 HT HS HH => ?_)
   (try clear F)
   refine drq_of [(0, some 17), (1, some 18), (2, some 19)] ?_
   repeat (refine drp HT ?_)
   refine drq_end ?_
   refine dr_take 3 (some 20) HT HH (v := ?_) (a' := ?_) rfl rfl (by kernel_rfl) (fun _ _ _ h => h) (.inl ⟨by rfl, ?_⟩) ?_ ?_
   rotate_left
   · rintro w' ⟨rs', HS'⟩; have e10_0 := (HS'.keepc e10_0); go_simp; with_reducible rfl
   rotate_left
   · simp only [Act.put, ptn]; rfl
   refine drq_of [(4, some 21), (5, some 22), (6, some 23)] ?_
   repeat (refine drp HT ?_)
   refine drq_end ?_
   refine dr_take 7 (some 24) HT HH (v := ?_) (a' := ?_) rfl rfl (by kernel_rfl) (fun _ _ _ h => h) (.inl ⟨by rfl, ?_⟩) ?_ ?_
   rotate_left
   · rintro w' ⟨rs', HS'⟩; have e13_0 := (HS'.keepc e13_0); go_simp; with_reducible rfl
   rotate_left
   · simp only [Act.put, ptn]; rfl
   refine drq_of [(8, some 25)] ?_
   repeat (refine drp HT ?_)
   refine drq_end ?_
   refine done_ (done_of HT.out (by kernel_rfl)) ?_
   replace H := znif' H; rcases H with ⟨c11, H⟩ | ⟨c11, H⟩
   case inl =>
    have c11a := beq_eq_false_iff_ne.mpr c11
    have c11b := bne_iff_ne.mpr c11
    clear c11
    (try simp only [c11a, c11b, dcn])
    obtain rfl := zsome H
    go_wp2
    go_ret
    exact HS.pk
   have c11a := beq_iff_eq.mpr c11
   have c11b := bne_eq_false_iff_eq.mpr c11
   clear c11
   (try simp only [c11a, c11b, dcn])
   go_wp2
   go_roundg k4
   case measure => have := HKk4.out; omega
   case rel => exact ⟨_, rfl, H, ⟨by have := HKk4.out; omega⟩, HS.pick [] (by decide) (by rfl)⟩
/-! ### laws_eqCert: function 38 -/
def laws_eqCert.f (k : Nat) (a0 : S91) (a1 : S91) : Option (Bool) := (if a0.f0 = a1.f0 then (if a0.f1.toList = a1.f1.toList then (if a0.f2.toList = a1.f2.toList then (if a0.f3 = a1.f3 then (if a0.f4 = a1.f4 then (if a0.f5.toList = a1.f5.toList then (if a0.f6 = a1.f6 then (if a0.f7 = a1.f7 then (if a0.f8 = a1.f8 then ((laws_eqIntS.f k a0.f9 a1.f9).bind fun t14 => (if t14 = true then ((laws_eqStringS.f k a0.f10 a1.f10).bind fun t17 => (if t17 = true then ((laws_eqStringS.f k a0.f11 a1.f11).bind fun t20 => (if t20 = true then (if a0.f12.toList = a1.f12.toList then (some true) else (some false)) else (some false))) else (some false))) else (some false))) else (some false)) else (some false)) else (some false)) else (some false)) else (some false)) else (some false)) else (some false)) else (some false)) else (some false))
set_option maxHeartbeats 16000000 in
theorem laws_eqCert.calls {k : Nat} {a0 : S91} {a1 : S91} {Ap0 : Option Addr} {np0 cp0 : Nat} {Ap1 : Option Addr} {np1 cp1 : Nat} {Ap2 : Option Addr} {np2 cp2 : Nat} {Ap3 : Option Addr} {np3 cp3 : Nat} {Ap4 : Option Addr} {np4 cp4 : Nat} {Ap5 : Option Addr} {np5 cp5 : Nat} {r : Bool} {w : World} (h : laws_eqCert.f k a0 a1 = some r) (gp0 : (Kd.int .i64).C w Ap0 np0 a0.f9) (lp0 : np0 ≤ cp0) (gp1 : Kd.string.C w Ap1 np1 a0.f10) (lp1 : np1 ≤ cp1) (gp2 : Kd.string.C w Ap2 np2 a0.f11) (lp2 : np2 ≤ cp2) (gp3 : (Kd.int .i64).C w Ap3 np3 a1.f9) (lp3 : np3 ≤ cp3) (gp4 : Kd.string.C w Ap4 np4 a1.f10) (lp4 : np4 ≤ cp4) (gp5 : Kd.string.C w Ap5 np5 a1.f11) (lp5 : np5 ≤ cp5) :
    Calls Tryz.prog 38 #[.agg #[.int .i64 a0.f0, .string a0.f1, .string a0.f2, .int .i64 a0.f3, .int .i64 a0.f4, .string a0.f5, .bool a0.f6, .int .i64 a0.f7, .int .i64 a0.f8, .slice Ap0 np0 cp0, .slice Ap1 np1 cp1, .slice Ap2 np2 cp2, .string a0.f12], .agg #[.int .i64 a1.f0, .string a1.f1, .string a1.f2, .int .i64 a1.f3, .int .i64 a1.f4, .string a1.f5, .bool a1.f6, .int .i64 a1.f7, .int .i64 a1.f8, .slice Ap3 np3 cp3, .slice Ap4 np4 cp4, .slice Ap5 np5 cp5, .string a1.f12]] w (fun e w' => e = .returned (.bool r) ∧ Hp noFP w w' []) := by
 obtain rfl := C_len gp0
 obtain rfl := C_len gp1
 obtain rfl := C_len gp2
 obtain rfl := C_len gp3
 obtain rfl := C_len gp4
 obtain rfl := C_len gp5
 have HS := Hp.start w
 have H := Aside0.mk h
 clear h
 unfold laws_eqCert.f at H
 go_enter Tryz.func38, Tryz.ntmps38
 go_upto_if 9 with (first | ((with_reducible refine gd 2 rfl ?_); refine ev_bx HS ?_; clear HS; (try clear F); intro g2 w2 HS F) | ((with_reducible refine gd 3 rfl ?_); refine ev_bx HS ?_; clear HS; (try clear F); intro g3 w3 HS F))
 replace H := znif' H; rcases H with ⟨c5, H⟩ | ⟨c5, H⟩
 case inl =>
  have c5a := beq_eq_false_iff_ne.mpr c5
  have c5b := bne_iff_ne.mpr c5
  clear c5
  (try simp only [c5a, c5b, dcn])
  obtain rfl := zsome H
  go_wp2
  go_ret
  exact HS.pk
 have c5a := beq_iff_eq.mpr c5
 have c5b := bne_eq_false_iff_eq.mpr c5
 clear c5
 (try simp only [c5a, c5b, dcn])
 replace H := znif' H; rcases H with ⟨c6, H⟩ | ⟨c6, H⟩
 case inl =>
  have c6a := beq_eq_false_iff_ne.mpr c6
  have c6b := bne_iff_ne.mpr c6
  clear c6
  obtain rfl := zsome H
  go_wp2
  go_ret
  exact HS.pk
 have c6a := beq_iff_eq.mpr c6
 have c6b := bne_eq_false_iff_eq.mpr c6
 clear c6
 replace H := znif' H; rcases H with ⟨c7, H⟩ | ⟨c7, H⟩
 case inl =>
  have c7a := beq_eq_false_iff_ne.mpr c7
  have c7b := bne_iff_ne.mpr c7
  clear c7
  obtain rfl := zsome H
  go_wp2
  go_ret
  exact HS.pk
 have c7a := beq_iff_eq.mpr c7
 have c7b := bne_eq_false_iff_eq.mpr c7
 clear c7
 replace H := znif' H; rcases H with ⟨c8, H⟩ | ⟨c8, H⟩
 case inl =>
  have c8a := beq_eq_false_iff_ne.mpr c8
  have c8b := bne_iff_ne.mpr c8
  clear c8
  obtain rfl := zsome H
  go_wp2
  go_ret
  exact HS.pk
 have c8a := beq_iff_eq.mpr c8
 have c8b := bne_eq_false_iff_eq.mpr c8
 clear c8
 replace H := znif' H; rcases H with ⟨c9, H⟩ | ⟨c9, H⟩
 case inl =>
  have c9a := beq_eq_false_iff_ne.mpr c9
  have c9b := bne_iff_ne.mpr c9
  clear c9
  obtain rfl := zsome H
  go_wp2
  go_ret
  exact HS.pk
 have c9a := beq_iff_eq.mpr c9
 have c9b := bne_eq_false_iff_eq.mpr c9
 clear c9
 replace H := znif' H; rcases H with ⟨c10, H⟩ | ⟨c10, H⟩
 case inl =>
  have c10a := beq_eq_false_iff_ne.mpr c10
  have c10b := bne_iff_ne.mpr c10
  clear c10
  obtain rfl := zsome H
  go_wp2
  go_ret
  exact HS.pk
 have c10a := beq_iff_eq.mpr c10
 have c10b := bne_eq_false_iff_eq.mpr c10
 clear c10
 replace H := znif' H; rcases H with ⟨c11, H⟩ | ⟨c11, H⟩
 case inl =>
  have c11a := beq_eq_false_iff_ne.mpr c11
  have c11b := bne_iff_ne.mpr c11
  clear c11
  obtain rfl := zsome H
  go_wp2
  go_ret
  exact HS.pk
 have c11a := beq_iff_eq.mpr c11
 have c11b := bne_eq_false_iff_eq.mpr c11
 clear c11
 replace H := znif' H; rcases H with ⟨c12, H⟩ | ⟨c12, H⟩
 case inl =>
  have c12a := beq_eq_false_iff_ne.mpr c12
  have c12b := bne_iff_ne.mpr c12
  clear c12
  obtain rfl := zsome H
  go_wp2
  go_ret
  exact HS.pk
 have c12a := beq_iff_eq.mpr c12
 have c12b := bne_eq_false_iff_eq.mpr c12
 clear c12
 replace H := znif' H; rcases H with ⟨c13, H⟩ | ⟨c13, H⟩
 case inl =>
  have c13a := beq_eq_false_iff_ne.mpr c13
  have c13b := bne_iff_ne.mpr c13
  clear c13
  obtain rfl := zsome H
  go_wp2
  go_ret
  exact HS.pk
 have c13a := beq_iff_eq.mpr c13
 have c13b := bne_eq_false_iff_eq.mpr c13
 clear c13
 replace H := zbind H; obtain ⟨t14, ht14, H⟩ := H
 go_upto_if 55 with (first | ((with_reducible refine gd 54 rfl ?_); refine ev_cl HS (laws_eqIntS.calls ht14.out (HS.ro gp0) lp0 (HS.ro gp3) lp3) Tryz.func101 ?_; clear HS; (try clear F); intro wt14 HS F))
 replace H := znifb H; rcases H with ⟨c16, H⟩ | ⟨c16, H⟩
 case inl =>
  subst c16
  (try simp only [dcn, if_true, Bool.false_eq_true, if_false])
  obtain rfl := zsome H
  go_wp2
  go_ret
  exact HS.pk
 subst c16
 (try simp only [dcn, if_true, Bool.false_eq_true, if_false])
 replace H := zbind H; obtain ⟨t17, ht17, H⟩ := H
 go_upto_if 61 with (first | ((with_reducible refine gd 60 rfl ?_); refine ev_cl HS (laws_eqStringS.calls ht17.out (HS.ro gp1) lp1 (HS.ro gp4) lp4) Tryz.func103 ?_; clear HS; (try clear F); intro wt17 HS F))
 replace H := znifb H; rcases H with ⟨c19, H⟩ | ⟨c19, H⟩
 case inl =>
  subst c19
  (try simp only [dcn, if_true, Bool.false_eq_true, if_false])
  obtain rfl := zsome H
  go_wp2
  go_ret
  exact HS.pk
 subst c19
 (try simp only [dcn, if_true, Bool.false_eq_true, if_false])
 replace H := zbind H; obtain ⟨t20, ht20, H⟩ := H
 go_upto_if 67 with (first | ((with_reducible refine gd 66 rfl ?_); refine ev_cl HS (laws_eqStringS.calls ht20.out (HS.ro gp2) lp2 (HS.ro gp5) lp5) Tryz.func103 ?_; clear HS; (try clear F); intro wt20 HS F))
 replace H := znifb H; rcases H with ⟨c22, H⟩ | ⟨c22, H⟩
 case inl =>
  subst c22
  (try simp only [dcn, if_true, Bool.false_eq_true, if_false])
  obtain rfl := zsome H
  go_wp2
  go_ret
  exact HS.pk
 subst c22
 (try simp only [dcn, if_true, Bool.false_eq_true, if_false])
 replace H := znif' H; rcases H with ⟨c23, H⟩ | ⟨c23, H⟩
 case inl =>
  have c23a := beq_eq_false_iff_ne.mpr c23
  have c23b := bne_iff_ne.mpr c23
  clear c23
  obtain rfl := zsome H
  go_wp2
  go_ret
  exact HS.pk
 have c23a := beq_iff_eq.mpr c23
 have c23b := bne_eq_false_iff_eq.mpr c23
 clear c23
 obtain rfl := zsome H
 go_wp2
 go_ret
 exact HS.pk
/-! ### laws_eqCertS: function 68 -/
def laws_eqCertS.l0 : Nat → Int → (List S91) → (List S91) → Option (Bool)
  | 0, _, _, _ => none
  | k + 1, x5, a0, a1 => (if x5 < (a0.length : Int) then (if 0 ≤ x5 then (if x5 < (a0.length : Int) then (if x5 < (a1.length : Int) then ((laws_eqCert.f k (rd_T91 a0 x5) (rd_T91 a1 x5)).bind fun t14 => (if t14 = true then (laws_eqCertS.l0 k (wrap64 (x5 + 1)) a0 a1) else (some false))) else none) else none) else none) else (some true))
def laws_eqCertS.f (k : Nat) (a0 : (List S91)) (a1 : (List S91)) : Option (Bool) := (if (a0.length : Int) = (a1.length : Int) then (laws_eqCertS.l0 k 0 a0 a1) else (some false))
def laws_eqCertS.T6 : Bool × List (List Nat × List Nat) := (true, [([], []), ([], []), ([0, 1], [0, 1]), ([2], [2]), ([], []), ([], []), ([4, 5], [4, 5]), ([6], [6]), ([3, 7], [3, 7]), ([8], [8])])
theorem laws_eqCertS.tT6 : rtab .any (opsOf Tryz.f68 6) = laws_eqCertS.T6 := by kernel_rfl
set_option maxHeartbeats 16000000 in
theorem laws_eqCertS.calls {k : Nat} {a0 : (List S91)} {a1 : (List S91)} {Ap0 : Option Addr} {np0 cp0 : Nat} {Ap1 : Option Addr} {np1 cp1 : Nat} {r : Bool} {w : World} (h : laws_eqCertS.f k a0 a1 = some r) (gp0 : k91.C w Ap0 np0 a0) (lp0 : np0 ≤ cp0) (gp1 : k91.C w Ap1 np1 a1) (lp1 : np1 ≤ cp1) :
    Calls Tryz.prog 68 #[.slice Ap0 np0 cp0, .slice Ap1 np1 cp1] w (fun e w' => e = .returned (.bool r) ∧ Hp noFP w w' []) := by
 obtain rfl := C_len gp0
 obtain rfl := C_len gp1
 have HS := Hp.start w
 have H := Aside0.mk h
 clear h
 unfold laws_eqCertS.f at H
 go_enter Tryz.func68, Tryz.ntmps68
 replace H := znif' H; rcases H with ⟨c1, H⟩ | ⟨c1, H⟩
 case inl =>
  have c1a := beq_eq_false_iff_ne.mpr c1
  have c1b := bne_iff_ne.mpr c1
  clear c1
  obtain rfl := zsome H
  go_wp2
  go_ret
  exact HS.pk
 have c1a := beq_iff_eq.mpr c1
 have c1b := bne_eq_false_iff_eq.mpr c1
 clear c1
 go_wp2
 go_loopg [5] k (fun kq v_5 w' => ∃ (x5 : Int), v_5 = .int .i64 x5 ∧ Aside0 (laws_eqCertS.l0 kq x5 a0 a1 = some r) ∧ Aside0 (kq ≤ k) ∧ Hp noFP w w' [])
 case atStart => exact ⟨_, rfl, H, ⟨Nat.le_refl _⟩, HS⟩
 case round =>
  clear HS H; (try clear F)
  obtain ⟨x5, rfl, H, HKk4, HS⟩ := hrel
  cases gk with
  | zero => exact absurd H.out (by simp [laws_eqCertS.l0])
  | succ k4 =>
   simp only [laws_eqCertS.l0] at H
   replace H := znif H; rcases H with ⟨c7, H⟩ | ⟨c7, H⟩
   case inl =>
    obtain rfl := zsome H
    go_wp2
    go_ret
    exact HS.pk
   (try go_wp2)
   replace H := zgo H; obtain ⟨c3, H⟩ := H
   replace H := zgo H; obtain ⟨c8, H⟩ := H
   obtain ⟨ad10, B10_9, d10_9, B10_10, d10_10, B10_11, d10_11, rfl, e10_0, e10_1, e10_2, e10_3, e10_4, e10_5, e10_6, e10_7, e10_8, e10_9, e10_10, e10_11, e10_12, m10_9, y10_9, m10_10, y10_10, m10_11, y10_11⟩ := at_T91 gp0 x5 (of_eq_true c3) (of_eq_true c8)
   replace H := zgo H; obtain ⟨c12, H⟩ := H
   obtain ⟨ad13, B13_9, d13_9, B13_10, d13_10, B13_11, d13_11, rfl, e13_0, e13_1, e13_2, e13_3, e13_4, e13_5, e13_6, e13_7, e13_8, e13_9, e13_10, e13_11, e13_12, m13_9, y13_9, m13_10, y13_10, m13_11, y13_11⟩ := at_T91 gp1 x5 (of_eq_true c3) (of_eq_true c12)
   replace H := zbind H; obtain ⟨t14, ht14, H⟩ := H
   refine dr_start [] HS #[false, false, false, false, false, false, false, false, false, false] (by kernel_rfl) rfl rfl laws_eqCertS.tT6 (fun w9 HT HS HH => ?_)
   (try clear F)
   refine drq_of [(0, some 17), (1, some 18), (2, some 19)] ?_
   repeat (refine drp HT ?_)
   refine drq_end ?_
   refine dr_take 3 (some 20) HT HH (v := ?_) (a' := ?_) rfl rfl (by kernel_rfl) (fun _ _ _ h => h) (.inl ⟨by rfl, ?_⟩) ?_ ?_
   rotate_left
   · rintro w' ⟨rs', HS'⟩; have e10_0 := (HS'.keepc e10_0); have e10_1 := (HS'.keepc e10_1); have e10_2 := (HS'.keepc e10_2); have e10_3 := (HS'.keepc e10_3); have e10_4 := (HS'.keepc e10_4); have e10_5 := (HS'.keepc e10_5); have e10_6 := (HS'.keepc e10_6); have e10_7 := (HS'.keepc e10_7); have e10_8 := (HS'.keepc e10_8); have e10_9 := (HS'.keepc e10_9); have e10_10 := (HS'.keepc e10_10); have e10_11 := (HS'.keepc e10_11); have e10_12 := (HS'.keepc e10_12); go_simp; with_reducible rfl
   rotate_left
   · simp only [Act.put, ptn]; rfl
   refine drq_of [(4, some 21), (5, some 22), (6, some 23)] ?_
   repeat (refine drp HT ?_)
   refine drq_end ?_
   refine dr_take 7 (some 24) HT HH (v := ?_) (a' := ?_) rfl rfl (by kernel_rfl) (fun _ _ _ h => h) (.inl ⟨by rfl, ?_⟩) ?_ ?_
   rotate_left
   · rintro w' ⟨rs', HS'⟩; have e13_0 := (HS'.keepc e13_0); have e13_1 := (HS'.keepc e13_1); have e13_2 := (HS'.keepc e13_2); have e13_3 := (HS'.keepc e13_3); have e13_4 := (HS'.keepc e13_4); have e13_5 := (HS'.keepc e13_5); have e13_6 := (HS'.keepc e13_6); have e13_7 := (HS'.keepc e13_7); have e13_8 := (HS'.keepc e13_8); have e13_9 := (HS'.keepc e13_9); have e13_10 := (HS'.keepc e13_10); have e13_11 := (HS'.keepc e13_11); have e13_12 := (HS'.keepc e13_12); go_simp; with_reducible rfl
   rotate_left
   · simp only [Act.put, ptn]; rfl
   refine dr1 8 HT fun K hK => ?_
   refine go_cl HS (laws_eqCert.calls ht14.out (HS.ro y10_9) m10_9 (HS.ro y10_10) m10_10 (HS.ro y10_11) m10_11 (HS.ro y13_9) m13_9 (HS.ro y13_10) m13_10 (HS.ro y13_11) m13_11) Tryz.func38 ?_; clear HS; (try clear F); intro wt14 HS F
   refine nrm 25 hK ⟨_, HS⟩ (fun HH => ?_); clear hK K
   refine drq_of [(9, some 26)] ?_
   repeat (refine drp HT ?_)
   refine drq_end ?_
   refine done_ (done_of HT.out (by kernel_rfl)) ?_
   replace H := znifb H; rcases H with ⟨c11, H⟩ | ⟨c11, H⟩
   case inl =>
    subst c11
    (try simp only [dcn, if_true, Bool.false_eq_true, if_false])
    obtain rfl := zsome H
    go_wp2
    go_ret
    exact HS.pk
   subst c11
   (try simp only [dcn, if_true, Bool.false_eq_true, if_false])
   go_wp2
   go_roundg k4
   case measure => have := HKk4.out; omega
   case rel => exact ⟨_, rfl, H, ⟨by have := HKk4.out; omega⟩, HS.pick [] (by decide) (by rfl)⟩
/-! ### laws_eqRev: function 179 -/
def laws_eqRev.f (a0 : S238) (a1 : S238) : Option (Bool) := (if a0.f0 = a1.f0 then (if a0.f1 = a1.f1 then (some true) else (some false)) else (some false))
set_option maxHeartbeats 16000000 in
theorem laws_eqRev.calls {a0 : S238} {a1 : S238} {r : Bool} {w : World} (h : laws_eqRev.f a0 a1 = some r) :
    Calls Tryz.prog 179 #[.agg #[.int .i64 a0.f0, .int .i64 a0.f1], .agg #[.int .i64 a1.f0, .int .i64 a1.f1]] w (fun e w' => e = .returned (.bool r) ∧ Hp noFP w w' []) := by
 have HS := Hp.start w
 have H := Aside0.mk h
 clear h
 unfold laws_eqRev.f at H
 go_enter Tryz.func179, Tryz.ntmps179
 go_upto_if 9 with (first | ((with_reducible refine gd 2 rfl ?_); refine ev_bx HS ?_; clear HS; (try clear F); intro g2 w2 HS F) | ((with_reducible refine gd 3 rfl ?_); refine ev_bx HS ?_; clear HS; (try clear F); intro g3 w3 HS F))
 replace H := znif' H; rcases H with ⟨c5, H⟩ | ⟨c5, H⟩
 case inl =>
  have c5a := beq_eq_false_iff_ne.mpr c5
  have c5b := bne_iff_ne.mpr c5
  clear c5
  (try simp only [c5a, c5b, dcn])
  obtain rfl := zsome H
  go_wp2
  go_ret
  exact HS.pk
 have c5a := beq_iff_eq.mpr c5
 have c5b := bne_eq_false_iff_eq.mpr c5
 clear c5
 (try simp only [c5a, c5b, dcn])
 replace H := znif' H; rcases H with ⟨c6, H⟩ | ⟨c6, H⟩
 case inl =>
  have c6a := beq_eq_false_iff_ne.mpr c6
  have c6b := bne_iff_ne.mpr c6
  clear c6
  obtain rfl := zsome H
  go_wp2
  go_ret
  exact HS.pk
 have c6a := beq_iff_eq.mpr c6
 have c6b := bne_eq_false_iff_eq.mpr c6
 clear c6
 obtain rfl := zsome H
 go_wp2
 go_ret
 exact HS.pk
/-! ### laws_eqRevS: function 110 -/
def laws_eqRevS.l0 : Nat → Int → (List S238) → (List S238) → Option (Bool)
  | 0, _, _, _ => none
  | k + 1, x5, a0, a1 => (if x5 < (a0.length : Int) then (if 0 ≤ x5 then (if x5 < (a0.length : Int) then (if x5 < (a1.length : Int) then ((laws_eqRev.f (rd_T238 a0 x5) (rd_T238 a1 x5)).bind fun t14 => (if t14 = true then (laws_eqRevS.l0 k (wrap64 (x5 + 1)) a0 a1) else (some false))) else none) else none) else none) else (some true))
def laws_eqRevS.f (k : Nat) (a0 : (List S238)) (a1 : (List S238)) : Option (Bool) := (if (a0.length : Int) = (a1.length : Int) then (laws_eqRevS.l0 k 0 a0 a1) else (some false))
def laws_eqRevS.T6 : Bool × List (List Nat × List Nat) := (true, [([], []), ([], []), ([0, 1], [0, 1]), ([2], [2]), ([], []), ([], []), ([4, 5], [4, 5]), ([6], [6]), ([3, 7], [3, 7]), ([8], [8])])
theorem laws_eqRevS.tT6 : rtab .any (opsOf Tryz.f110 6) = laws_eqRevS.T6 := by kernel_rfl
set_option maxHeartbeats 16000000 in
theorem laws_eqRevS.calls {k : Nat} {a0 : (List S238)} {a1 : (List S238)} {Ap0 : Option Addr} {np0 cp0 : Nat} {Ap1 : Option Addr} {np1 cp1 : Nat} {r : Bool} {w : World} (h : laws_eqRevS.f k a0 a1 = some r) (gp0 : k238.C w Ap0 np0 a0) (lp0 : np0 ≤ cp0) (gp1 : k238.C w Ap1 np1 a1) (lp1 : np1 ≤ cp1) :
    Calls Tryz.prog 110 #[.slice Ap0 np0 cp0, .slice Ap1 np1 cp1] w (fun e w' => e = .returned (.bool r) ∧ Hp noFP w w' []) := by
 obtain rfl := C_len gp0
 obtain rfl := C_len gp1
 have HS := Hp.start w
 have H := Aside0.mk h
 clear h
 unfold laws_eqRevS.f at H
 go_enter Tryz.func110, Tryz.ntmps110
 replace H := znif' H; rcases H with ⟨c1, H⟩ | ⟨c1, H⟩
 case inl =>
  have c1a := beq_eq_false_iff_ne.mpr c1
  have c1b := bne_iff_ne.mpr c1
  clear c1
  obtain rfl := zsome H
  go_wp2
  go_ret
  exact HS.pk
 have c1a := beq_iff_eq.mpr c1
 have c1b := bne_eq_false_iff_eq.mpr c1
 clear c1
 go_wp2
 go_loopg [5] k (fun kq v_5 w' => ∃ (x5 : Int), v_5 = .int .i64 x5 ∧ Aside0 (laws_eqRevS.l0 kq x5 a0 a1 = some r) ∧ Aside0 (kq ≤ k) ∧ Hp noFP w w' [])
 case atStart => exact ⟨_, rfl, H, ⟨Nat.le_refl _⟩, HS⟩
 case round =>
  clear HS H; (try clear F)
  obtain ⟨x5, rfl, H, HKk4, HS⟩ := hrel
  cases gk with
  | zero => exact absurd H.out (by simp [laws_eqRevS.l0])
  | succ k4 =>
   simp only [laws_eqRevS.l0] at H
   replace H := znif H; rcases H with ⟨c7, H⟩ | ⟨c7, H⟩
   case inl =>
    obtain rfl := zsome H
    go_wp2
    go_ret
    exact HS.pk
   (try go_wp2)
   replace H := zgo H; obtain ⟨c3, H⟩ := H
   replace H := zgo H; obtain ⟨c8, H⟩ := H
   obtain ⟨ad10, rfl, e10_0, e10_1⟩ := at_T238 gp0 x5 (of_eq_true c3) (of_eq_true c8)
   replace H := zgo H; obtain ⟨c12, H⟩ := H
   obtain ⟨ad13, rfl, e13_0, e13_1⟩ := at_T238 gp1 x5 (of_eq_true c3) (of_eq_true c12)
   replace H := zbind H; obtain ⟨t14, ht14, H⟩ := H
   refine dr_start [] HS #[false, false, false, false, false, false, false, false, false, false] (by kernel_rfl) rfl rfl laws_eqRevS.tT6 (fun w9 HT HS HH => ?_)
   (try clear F)
   refine drq_of [(0, some 17), (1, some 18), (2, some 19)] ?_
   repeat (refine drp HT ?_)
   refine drq_end ?_
   refine dr_take 3 (some 20) HT HH (v := ?_) (a' := ?_) rfl rfl (by kernel_rfl) (fun _ _ _ h => h) (.inl ⟨by rfl, ?_⟩) ?_ ?_
   rotate_left
   · rintro w' ⟨rs', HS'⟩; have e10_0 := (HS'.keepc e10_0); have e10_1 := (HS'.keepc e10_1); go_simp; with_reducible rfl
   rotate_left
   · simp only [Act.put, ptn]; rfl
   refine drq_of [(4, some 21), (5, some 22), (6, some 23)] ?_
   repeat (refine drp HT ?_)
   refine drq_end ?_
   refine dr_take 7 (some 24) HT HH (v := ?_) (a' := ?_) rfl rfl (by kernel_rfl) (fun _ _ _ h => h) (.inl ⟨by rfl, ?_⟩) ?_ ?_
   rotate_left
   · rintro w' ⟨rs', HS'⟩; have e13_0 := (HS'.keepc e13_0); have e13_1 := (HS'.keepc e13_1); go_simp; with_reducible rfl
   rotate_left
   · simp only [Act.put, ptn]; rfl
   refine dr1 8 HT fun K hK => ?_
   refine go_cl HS (laws_eqRev.calls ht14.out) Tryz.func179 ?_; clear HS; (try clear F); intro wt14 HS F
   refine nrm 25 hK ⟨_, HS⟩ (fun HH => ?_); clear hK K
   refine drq_of [(9, some 26)] ?_
   repeat (refine drp HT ?_)
   refine drq_end ?_
   refine done_ (done_of HT.out (by kernel_rfl)) ?_
   replace H := znifb H; rcases H with ⟨c11, H⟩ | ⟨c11, H⟩
   case inl =>
    subst c11
    (try simp only [dcn, if_true, Bool.false_eq_true, if_false])
    obtain rfl := zsome H
    go_wp2
    go_ret
    exact HS.pk
   subst c11
   (try simp only [dcn, if_true, Bool.false_eq_true, if_false])
   go_wp2
   go_roundg k4
   case measure => have := HKk4.out; omega
   case rel => exact ⟨_, rfl, H, ⟨by have := HKk4.out; omega⟩, HS.pick [] (by decide) (by rfl)⟩
/-! ### laws_eqCrl: function 30 -/
def laws_eqCrl.f (k : Nat) (a0 : S81) (a1 : S81) : Option (Bool) := (if a0.f0.toList = a1.f0.toList then (if a0.f1 = a1.f1 then (if a0.f2 = a1.f2 then (if a0.f3 = a1.f3 then (if a0.f4 = a1.f4 then ((laws_eqRevS.f k a0.f5 a1.f5).bind fun t10 => (if t10 = true then (if a0.f6.toList = a1.f6.toList then (some true) else (some false)) else (some false))) else (some false)) else (some false)) else (some false)) else (some false)) else (some false))
set_option maxHeartbeats 16000000 in
theorem laws_eqCrl.calls {k : Nat} {a0 : S81} {a1 : S81} {Ap0 : Option Addr} {np0 cp0 : Nat} {Ap1 : Option Addr} {np1 cp1 : Nat} {r : Bool} {w : World} (h : laws_eqCrl.f k a0 a1 = some r) (gp0 : k238.C w Ap0 np0 a0.f5) (lp0 : np0 ≤ cp0) (gp1 : k238.C w Ap1 np1 a1.f5) (lp1 : np1 ≤ cp1) :
    Calls Tryz.prog 30 #[.agg #[.string a0.f0, .int .i64 a0.f1, .int .i64 a0.f2, .int .i64 a0.f3, .int .i64 a0.f4, .slice Ap0 np0 cp0, .string a0.f6], .agg #[.string a1.f0, .int .i64 a1.f1, .int .i64 a1.f2, .int .i64 a1.f3, .int .i64 a1.f4, .slice Ap1 np1 cp1, .string a1.f6]] w (fun e w' => e = .returned (.bool r) ∧ Hp noFP w w' []) := by
 obtain rfl := C_len gp0
 obtain rfl := C_len gp1
 have HS := Hp.start w
 have H := Aside0.mk h
 clear h
 unfold laws_eqCrl.f at H
 go_enter Tryz.func30, Tryz.ntmps30
 go_upto_if 9 with (first | ((with_reducible refine gd 2 rfl ?_); refine ev_bx HS ?_; clear HS; (try clear F); intro g2 w2 HS F) | ((with_reducible refine gd 3 rfl ?_); refine ev_bx HS ?_; clear HS; (try clear F); intro g3 w3 HS F))
 replace H := znif' H; rcases H with ⟨c5, H⟩ | ⟨c5, H⟩
 case inl =>
  have c5a := beq_eq_false_iff_ne.mpr c5
  have c5b := bne_iff_ne.mpr c5
  clear c5
  (try simp only [c5a, c5b, dcn])
  obtain rfl := zsome H
  go_wp2
  go_ret
  exact HS.pk
 have c5a := beq_iff_eq.mpr c5
 have c5b := bne_eq_false_iff_eq.mpr c5
 clear c5
 (try simp only [c5a, c5b, dcn])
 replace H := znif' H; rcases H with ⟨c6, H⟩ | ⟨c6, H⟩
 case inl =>
  have c6a := beq_eq_false_iff_ne.mpr c6
  have c6b := bne_iff_ne.mpr c6
  clear c6
  obtain rfl := zsome H
  go_wp2
  go_ret
  exact HS.pk
 have c6a := beq_iff_eq.mpr c6
 have c6b := bne_eq_false_iff_eq.mpr c6
 clear c6
 replace H := znif' H; rcases H with ⟨c7, H⟩ | ⟨c7, H⟩
 case inl =>
  have c7a := beq_eq_false_iff_ne.mpr c7
  have c7b := bne_iff_ne.mpr c7
  clear c7
  obtain rfl := zsome H
  go_wp2
  go_ret
  exact HS.pk
 have c7a := beq_iff_eq.mpr c7
 have c7b := bne_eq_false_iff_eq.mpr c7
 clear c7
 replace H := znif' H; rcases H with ⟨c8, H⟩ | ⟨c8, H⟩
 case inl =>
  have c8a := beq_eq_false_iff_ne.mpr c8
  have c8b := bne_iff_ne.mpr c8
  clear c8
  obtain rfl := zsome H
  go_wp2
  go_ret
  exact HS.pk
 have c8a := beq_iff_eq.mpr c8
 have c8b := bne_eq_false_iff_eq.mpr c8
 clear c8
 replace H := znif' H; rcases H with ⟨c9, H⟩ | ⟨c9, H⟩
 case inl =>
  have c9a := beq_eq_false_iff_ne.mpr c9
  have c9b := bne_iff_ne.mpr c9
  clear c9
  obtain rfl := zsome H
  go_wp2
  go_ret
  exact HS.pk
 have c9a := beq_iff_eq.mpr c9
 have c9b := bne_eq_false_iff_eq.mpr c9
 clear c9
 replace H := zbind H; obtain ⟨t10, ht10, H⟩ := H
 go_upto_if 35 with (first | ((with_reducible refine gd 34 rfl ?_); refine ev_cl HS (laws_eqRevS.calls ht10.out (HS.ro gp0) lp0 (HS.ro gp1) lp1) Tryz.func110 ?_; clear HS; (try clear F); intro wt10 HS F))
 replace H := znifb H; rcases H with ⟨c12, H⟩ | ⟨c12, H⟩
 case inl =>
  subst c12
  (try simp only [dcn, if_true, Bool.false_eq_true, if_false])
  obtain rfl := zsome H
  go_wp2
  go_ret
  exact HS.pk
 subst c12
 (try simp only [dcn, if_true, Bool.false_eq_true, if_false])
 replace H := znif' H; rcases H with ⟨c13, H⟩ | ⟨c13, H⟩
 case inl =>
  have c13a := beq_eq_false_iff_ne.mpr c13
  have c13b := bne_iff_ne.mpr c13
  clear c13
  obtain rfl := zsome H
  go_wp2
  go_ret
  exact HS.pk
 have c13a := beq_iff_eq.mpr c13
 have c13b := bne_eq_false_iff_eq.mpr c13
 clear c13
 obtain rfl := zsome H
 go_wp2
 go_ret
 exact HS.pk
end Go.Proofs.YtacocpknielofaaGreatDoor.F
