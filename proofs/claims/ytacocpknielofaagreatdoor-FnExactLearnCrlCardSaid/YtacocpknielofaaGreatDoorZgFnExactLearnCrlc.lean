/- Functions of the program and of the law, and that their calls do what is written here. -/
import Derived.Test.YtacocpknielofaaGreatDoorZgFnExactLearnCrlb
namespace Go.Proofs.YtacocpknielofaaGreatDoor.F
open Go.RowKit YtacocpknielofaaGreatDoorW.PrintWords YtacocpknielofaaGreatDoorW.PrintLast YtacocpknielofaaGreatDoorW.PrintMore Z
attribute [local go_sem] max2_int min2_int max_two min_two max_three min_three max_four min_four
set_option linter.unusedVariables false
set_option linter.unusedSimpArgs false
set_option maxRecDepth 100000
set_option maxHeartbeats 16000000
def spec_CertOk.f (k : Nat) (a0 : S91) : Option (Bool) := ((spec_l09Num.f a0.f0).bind fun t3 => (if t3 = true then ((spec_l09Num.f a0.f3).bind fun t6 => (if t6 = true then ((spec_l09Num.f a0.f4).bind fun t9 => (if t9 = true then ((spec_NameOk.f k a0.f1).bind fun t12 => (if t12 = true then ((spec_NameOk.f k a0.f2).bind fun t15 => (if t15 = true then (if (a0.f5.size : Int) = 15 then ((spec_l01In.f a0.f7 0 99).bind fun t19 => (if t19 = true then ((spec_l01In.f a0.f8 0 7).bind fun t22 => (if t22 = true then ((spec_PoliciesOk.f k a0.f9).bind fun t25 => (if t25 = true then ((spec_NamesOk.f k a0.f10).bind fun t28 => (if t28 = true then ((spec_NamesOk.f k a0.f11).bind fun t31 => (if t31 = true then (some ((a0.f12.size : Int) == 15)) else (some false))) else (some false))) else (some false))) else (some false))) else (some false))) else (some false)) else (some false))) else (some false))) else (some false))) else (some false))) else (some false)))
theorem spec_CertOk.calls {k : Nat} {a0 : S91} {Ap0 Ap1 Ap2 : Option Addr} {np0 cp0 np1 cp1 np2 cp2 : Nat} {r : Bool} {w : World} (h : spec_CertOk.f k a0 = some r) (gp0 : (Kd.int .i64).C w Ap0 np0 a0.f9) (lp0 : np0 ≤ cp0) (gp1 : Kd.string.C w Ap1 np1 a0.f10) (lp1 : np1 ≤ cp1) (gp2 : Kd.string.C w Ap2 np2 a0.f11) (lp2 : np2 ≤ cp2) :
    Calls Tryz.prog 122 #[.agg #[.int .i64 a0.f0, .string a0.f1, .string a0.f2, .int .i64 a0.f3, .int .i64 a0.f4, .string a0.f5, .bool a0.f6, .int .i64 a0.f7, .int .i64 a0.f8, .slice Ap0 np0 cp0, .slice Ap1 np1 cp1, .slice Ap2 np2 cp2, .string a0.f12]] w (fun e w' => e = .returned (.bool r) ∧ Hp noFP w w' []) := by
 obtain rfl := C_len gp0
 obtain rfl := C_len gp1
 obtain rfl := C_len gp2
 have HS := Hp.start w
 have H := Aside0.mk h
 clear h
 unfold spec_CertOk.f at H
 go_enter Tryz.func122, Tryz.ntmps122
 replace H := zbind H; obtain ⟨t3, ht3, H⟩ := H
 replace H := znifb H; rcases H with ⟨c5, H⟩ | ⟨c5, H⟩
 case inl =>
  subst c5
  obtain rfl := zsome H
  go_wp2_with (first | ((with_reducible refine gd 1 rfl ?_); refine ev_bx HS ?_; clear HS; intro g1 w1 HS F) | ((with_reducible refine gd 5 rfl ?_); refine ev_cl HS (spec_l09Num.calls ht3.out) Tryz.func75 ?_; clear HS; intro wt3 HS F))
  go_ret
  exact HS.pk
 subst c5
 replace H := zbind H; obtain ⟨t6, ht6, H⟩ := H
 replace H := znifb H; rcases H with ⟨c8, H⟩ | ⟨c8, H⟩
 case inl =>
  subst c8
  obtain rfl := zsome H
  go_wp2_with (first | ((with_reducible refine gd 1 rfl ?_); refine ev_bx HS ?_; clear HS; intro g1 w1 HS F) | ((with_reducible refine gd 5 rfl ?_); refine ev_cl HS (spec_l09Num.calls ht3.out) Tryz.func75 ?_; clear HS; intro wt3 HS F) | ((with_reducible refine gd 9 rfl ?_); refine gg ?_; refine ev_cl HS (spec_l09Num.calls ht6.out) Tryz.func75 ?_; clear HS; intro wt6 HS F))
  go_ret
  exact HS.pk
 subst c8
 replace H := zbind H; obtain ⟨t9, ht9, H⟩ := H
 replace H := znifb H; rcases H with ⟨c11, H⟩ | ⟨c11, H⟩
 case inl =>
  subst c11
  obtain rfl := zsome H
  go_wp2_with (first | ((with_reducible refine gd 1 rfl ?_); refine ev_bx HS ?_; clear HS; intro g1 w1 HS F) | ((with_reducible refine gd 5 rfl ?_); refine ev_cl HS (spec_l09Num.calls ht3.out) Tryz.func75 ?_; clear HS; intro wt3 HS F) | ((with_reducible refine gd 9 rfl ?_); refine gg ?_; refine ev_cl HS (spec_l09Num.calls ht6.out) Tryz.func75 ?_; clear HS; intro wt6 HS F) | ((with_reducible refine gd 14 rfl ?_); refine gg ?_; refine ev_cl HS (spec_l09Num.calls ht9.out) Tryz.func75 ?_; clear HS; intro wt9 HS F))
  go_ret
  exact HS.pk
 subst c11
 replace H := zbind H; obtain ⟨t12, ht12, H⟩ := H
 replace H := znifb H; rcases H with ⟨c14, H⟩ | ⟨c14, H⟩
 case inl =>
  subst c14
  obtain rfl := zsome H
  go_wp2_with (first | ((with_reducible refine gd 1 rfl ?_); refine ev_bx HS ?_; clear HS; intro g1 w1 HS F) | ((with_reducible refine gd 5 rfl ?_); refine ev_cl HS (spec_l09Num.calls ht3.out) Tryz.func75 ?_; clear HS; intro wt3 HS F) | ((with_reducible refine gd 9 rfl ?_); refine gg ?_; refine ev_cl HS (spec_l09Num.calls ht6.out) Tryz.func75 ?_; clear HS; intro wt6 HS F) | ((with_reducible refine gd 14 rfl ?_); refine gg ?_; refine ev_cl HS (spec_l09Num.calls ht9.out) Tryz.func75 ?_; clear HS; intro wt9 HS F) | ((with_reducible refine gd 19 rfl ?_); refine gg ?_; refine ev_cl HS (spec_NameOk.calls ht12.out) Tryz.func139 ?_; clear HS; intro wt12 HS F))
  go_ret
  exact HS.pk
 subst c14
 replace H := zbind H; obtain ⟨t15, ht15, H⟩ := H
 replace H := znifb H; rcases H with ⟨c17, H⟩ | ⟨c17, H⟩
 case inl =>
  subst c17
  obtain rfl := zsome H
  go_wp2_with (first | ((with_reducible refine gd 1 rfl ?_); refine ev_bx HS ?_; clear HS; intro g1 w1 HS F) | ((with_reducible refine gd 5 rfl ?_); refine ev_cl HS (spec_l09Num.calls ht3.out) Tryz.func75 ?_; clear HS; intro wt3 HS F) | ((with_reducible refine gd 9 rfl ?_); refine gg ?_; refine ev_cl HS (spec_l09Num.calls ht6.out) Tryz.func75 ?_; clear HS; intro wt6 HS F) | ((with_reducible refine gd 14 rfl ?_); refine gg ?_; refine ev_cl HS (spec_l09Num.calls ht9.out) Tryz.func75 ?_; clear HS; intro wt9 HS F) | ((with_reducible refine gd 19 rfl ?_); refine gg ?_; refine ev_cl HS (spec_NameOk.calls ht12.out) Tryz.func139 ?_; clear HS; intro wt12 HS F) | ((with_reducible refine gd 24 rfl ?_); refine gg ?_; refine ev_cl HS (spec_NameOk.calls ht15.out) Tryz.func139 ?_; clear HS; intro wt15 HS F))
  go_ret
  exact HS.pk
 subst c17
 replace H := znif' H; rcases H with ⟨c18, H⟩ | ⟨c18, H⟩
 case inl =>
  have c18a := beq_eq_false_iff_ne.mpr c18
  have c18b := bne_iff_ne.mpr c18
  clear c18
  obtain rfl := zsome H
  go_wp2_with (first | ((with_reducible refine gd 1 rfl ?_); refine ev_bx HS ?_; clear HS; intro g1 w1 HS F) | ((with_reducible refine gd 5 rfl ?_); refine ev_cl HS (spec_l09Num.calls ht3.out) Tryz.func75 ?_; clear HS; intro wt3 HS F) | ((with_reducible refine gd 9 rfl ?_); refine gg ?_; refine ev_cl HS (spec_l09Num.calls ht6.out) Tryz.func75 ?_; clear HS; intro wt6 HS F) | ((with_reducible refine gd 14 rfl ?_); refine gg ?_; refine ev_cl HS (spec_l09Num.calls ht9.out) Tryz.func75 ?_; clear HS; intro wt9 HS F) | ((with_reducible refine gd 19 rfl ?_); refine gg ?_; refine ev_cl HS (spec_NameOk.calls ht12.out) Tryz.func139 ?_; clear HS; intro wt12 HS F) | ((with_reducible refine gd 24 rfl ?_); refine gg ?_; refine ev_cl HS (spec_NameOk.calls ht15.out) Tryz.func139 ?_; clear HS; intro wt15 HS F))
  go_ret
  exact HS.pk
 have c18a := beq_iff_eq.mpr c18
 have c18b := bne_eq_false_iff_eq.mpr c18
 clear c18
 replace H := zbind H; obtain ⟨t19, ht19, H⟩ := H
 replace H := znifb H; rcases H with ⟨c21, H⟩ | ⟨c21, H⟩
 case inl =>
  subst c21
  obtain rfl := zsome H
  go_wp2_with (first | ((with_reducible refine gd 1 rfl ?_); refine ev_bx HS ?_; clear HS; intro g1 w1 HS F) | ((with_reducible refine gd 5 rfl ?_); refine ev_cl HS (spec_l09Num.calls ht3.out) Tryz.func75 ?_; clear HS; intro wt3 HS F) | ((with_reducible refine gd 9 rfl ?_); refine gg ?_; refine ev_cl HS (spec_l09Num.calls ht6.out) Tryz.func75 ?_; clear HS; intro wt6 HS F) | ((with_reducible refine gd 14 rfl ?_); refine gg ?_; refine ev_cl HS (spec_l09Num.calls ht9.out) Tryz.func75 ?_; clear HS; intro wt9 HS F) | ((with_reducible refine gd 19 rfl ?_); refine gg ?_; refine ev_cl HS (spec_NameOk.calls ht12.out) Tryz.func139 ?_; clear HS; intro wt12 HS F) | ((with_reducible refine gd 24 rfl ?_); refine gg ?_; refine ev_cl HS (spec_NameOk.calls ht15.out) Tryz.func139 ?_; clear HS; intro wt15 HS F) | ((with_reducible refine gd 35 rfl ?_); refine gg ?_; refine ev_cl HS (spec_l01In.calls ht19.out) Tryz.func74 ?_; clear HS; intro wt19 HS F))
  go_ret
  exact HS.pk
 subst c21
 replace H := zbind H; obtain ⟨t22, ht22, H⟩ := H
 replace H := znifb H; rcases H with ⟨c24, H⟩ | ⟨c24, H⟩
 case inl =>
  subst c24
  obtain rfl := zsome H
  go_wp2_with (first | ((with_reducible refine gd 1 rfl ?_); refine ev_bx HS ?_; clear HS; intro g1 w1 HS F) | ((with_reducible refine gd 5 rfl ?_); refine ev_cl HS (spec_l09Num.calls ht3.out) Tryz.func75 ?_; clear HS; intro wt3 HS F) | ((with_reducible refine gd 9 rfl ?_); refine gg ?_; refine ev_cl HS (spec_l09Num.calls ht6.out) Tryz.func75 ?_; clear HS; intro wt6 HS F) | ((with_reducible refine gd 14 rfl ?_); refine gg ?_; refine ev_cl HS (spec_l09Num.calls ht9.out) Tryz.func75 ?_; clear HS; intro wt9 HS F) | ((with_reducible refine gd 19 rfl ?_); refine gg ?_; refine ev_cl HS (spec_NameOk.calls ht12.out) Tryz.func139 ?_; clear HS; intro wt12 HS F) | ((with_reducible refine gd 24 rfl ?_); refine gg ?_; refine ev_cl HS (spec_NameOk.calls ht15.out) Tryz.func139 ?_; clear HS; intro wt15 HS F) | ((with_reducible refine gd 35 rfl ?_); refine gg ?_; refine ev_cl HS (spec_l01In.calls ht19.out) Tryz.func74 ?_; clear HS; intro wt19 HS F) | ((with_reducible refine gd 40 rfl ?_); refine gg ?_; refine ev_cl HS (spec_l01In.calls ht22.out) Tryz.func74 ?_; clear HS; intro wt22 HS F))
  go_ret
  exact HS.pk
 subst c24
 replace H := zbind H; obtain ⟨t25, ht25, H⟩ := H
 replace H := znifb H; rcases H with ⟨c27, H⟩ | ⟨c27, H⟩
 case inl =>
  subst c27
  obtain rfl := zsome H
  go_wp2_with (first | ((with_reducible refine gd 1 rfl ?_); refine ev_bx HS ?_; clear HS; intro g1 w1 HS F) | ((with_reducible refine gd 5 rfl ?_); refine ev_cl HS (spec_l09Num.calls ht3.out) Tryz.func75 ?_; clear HS; intro wt3 HS F) | ((with_reducible refine gd 9 rfl ?_); refine gg ?_; refine ev_cl HS (spec_l09Num.calls ht6.out) Tryz.func75 ?_; clear HS; intro wt6 HS F) | ((with_reducible refine gd 14 rfl ?_); refine gg ?_; refine ev_cl HS (spec_l09Num.calls ht9.out) Tryz.func75 ?_; clear HS; intro wt9 HS F) | ((with_reducible refine gd 19 rfl ?_); refine gg ?_; refine ev_cl HS (spec_NameOk.calls ht12.out) Tryz.func139 ?_; clear HS; intro wt12 HS F) | ((with_reducible refine gd 24 rfl ?_); refine gg ?_; refine ev_cl HS (spec_NameOk.calls ht15.out) Tryz.func139 ?_; clear HS; intro wt15 HS F) | ((with_reducible refine gd 35 rfl ?_); refine gg ?_; refine ev_cl HS (spec_l01In.calls ht19.out) Tryz.func74 ?_; clear HS; intro wt19 HS F) | ((with_reducible refine gd 40 rfl ?_); refine gg ?_; refine ev_cl HS (spec_l01In.calls ht22.out) Tryz.func74 ?_; clear HS; intro wt22 HS F) | ((with_reducible refine gd 45 rfl ?_); refine gg ?_; refine ev_cl HS (spec_PoliciesOk.calls ht25.out (HS.ro gp0) lp0) Tryz.func184 ?_; clear HS; intro wt25 HS F))
  go_ret
  exact HS.pk
 subst c27
 replace H := zbind H; obtain ⟨t28, ht28, H⟩ := H
 replace H := znifb H; rcases H with ⟨c30, H⟩ | ⟨c30, H⟩
 case inl =>
  subst c30
  obtain rfl := zsome H
  go_wp2_with (first | ((with_reducible refine gd 1 rfl ?_); refine ev_bx HS ?_; clear HS; intro g1 w1 HS F) | ((with_reducible refine gd 5 rfl ?_); refine ev_cl HS (spec_l09Num.calls ht3.out) Tryz.func75 ?_; clear HS; intro wt3 HS F) | ((with_reducible refine gd 9 rfl ?_); refine gg ?_; refine ev_cl HS (spec_l09Num.calls ht6.out) Tryz.func75 ?_; clear HS; intro wt6 HS F) | ((with_reducible refine gd 14 rfl ?_); refine gg ?_; refine ev_cl HS (spec_l09Num.calls ht9.out) Tryz.func75 ?_; clear HS; intro wt9 HS F) | ((with_reducible refine gd 19 rfl ?_); refine gg ?_; refine ev_cl HS (spec_NameOk.calls ht12.out) Tryz.func139 ?_; clear HS; intro wt12 HS F) | ((with_reducible refine gd 24 rfl ?_); refine gg ?_; refine ev_cl HS (spec_NameOk.calls ht15.out) Tryz.func139 ?_; clear HS; intro wt15 HS F) | ((with_reducible refine gd 35 rfl ?_); refine gg ?_; refine ev_cl HS (spec_l01In.calls ht19.out) Tryz.func74 ?_; clear HS; intro wt19 HS F) | ((with_reducible refine gd 40 rfl ?_); refine gg ?_; refine ev_cl HS (spec_l01In.calls ht22.out) Tryz.func74 ?_; clear HS; intro wt22 HS F) | ((with_reducible refine gd 45 rfl ?_); refine gg ?_; refine ev_cl HS (spec_PoliciesOk.calls ht25.out (HS.ro gp0) lp0) Tryz.func184 ?_; clear HS; intro wt25 HS F) | ((with_reducible refine gd 50 rfl ?_); refine gg ?_; refine ev_cl HS (spec_NamesOk.calls ht28.out (HS.ro gp1) lp1) Tryz.func185 ?_; clear HS; intro wt28 HS F))
  go_ret
  exact HS.pk
 subst c30
 replace H := zbind H; obtain ⟨t31, ht31, H⟩ := H
 replace H := zifb H; rcases H with ⟨c33, H⟩ | ⟨c33, H⟩
 case inl =>
  subst c33
  obtain rfl := zsome H
  go_wp2_with (first | ((with_reducible refine gd 1 rfl ?_); refine ev_bx HS ?_; clear HS; intro g1 w1 HS F) | ((with_reducible refine gd 5 rfl ?_); refine ev_cl HS (spec_l09Num.calls ht3.out) Tryz.func75 ?_; clear HS; intro wt3 HS F) | ((with_reducible refine gd 9 rfl ?_); refine gg ?_; refine ev_cl HS (spec_l09Num.calls ht6.out) Tryz.func75 ?_; clear HS; intro wt6 HS F) | ((with_reducible refine gd 14 rfl ?_); refine gg ?_; refine ev_cl HS (spec_l09Num.calls ht9.out) Tryz.func75 ?_; clear HS; intro wt9 HS F) | ((with_reducible refine gd 19 rfl ?_); refine gg ?_; refine ev_cl HS (spec_NameOk.calls ht12.out) Tryz.func139 ?_; clear HS; intro wt12 HS F) | ((with_reducible refine gd 24 rfl ?_); refine gg ?_; refine ev_cl HS (spec_NameOk.calls ht15.out) Tryz.func139 ?_; clear HS; intro wt15 HS F) | ((with_reducible refine gd 35 rfl ?_); refine gg ?_; refine ev_cl HS (spec_l01In.calls ht19.out) Tryz.func74 ?_; clear HS; intro wt19 HS F) | ((with_reducible refine gd 40 rfl ?_); refine gg ?_; refine ev_cl HS (spec_l01In.calls ht22.out) Tryz.func74 ?_; clear HS; intro wt22 HS F) | ((with_reducible refine gd 45 rfl ?_); refine gg ?_; refine ev_cl HS (spec_PoliciesOk.calls ht25.out (HS.ro gp0) lp0) Tryz.func184 ?_; clear HS; intro wt25 HS F) | ((with_reducible refine gd 50 rfl ?_); refine gg ?_; refine ev_cl HS (spec_NamesOk.calls ht28.out (HS.ro gp1) lp1) Tryz.func185 ?_; clear HS; intro wt28 HS F) | ((with_reducible refine gd 55 rfl ?_); refine gg ?_; refine ev_cl HS (spec_NamesOk.calls ht31.out (HS.ro gp2) lp2) Tryz.func185 ?_; clear HS; intro wt31 HS F))
  go_ret
  exact HS.pk
 subst c33
 obtain rfl := zsome H
 go_wp2_with (first | ((with_reducible refine gd 1 rfl ?_); refine ev_bx HS ?_; clear HS; intro g1 w1 HS F) | ((with_reducible refine gd 5 rfl ?_); refine ev_cl HS (spec_l09Num.calls ht3.out) Tryz.func75 ?_; clear HS; intro wt3 HS F) | ((with_reducible refine gd 9 rfl ?_); refine gg ?_; refine ev_cl HS (spec_l09Num.calls ht6.out) Tryz.func75 ?_; clear HS; intro wt6 HS F) | ((with_reducible refine gd 14 rfl ?_); refine gg ?_; refine ev_cl HS (spec_l09Num.calls ht9.out) Tryz.func75 ?_; clear HS; intro wt9 HS F) | ((with_reducible refine gd 19 rfl ?_); refine gg ?_; refine ev_cl HS (spec_NameOk.calls ht12.out) Tryz.func139 ?_; clear HS; intro wt12 HS F) | ((with_reducible refine gd 24 rfl ?_); refine gg ?_; refine ev_cl HS (spec_NameOk.calls ht15.out) Tryz.func139 ?_; clear HS; intro wt15 HS F) | ((with_reducible refine gd 35 rfl ?_); refine gg ?_; refine ev_cl HS (spec_l01In.calls ht19.out) Tryz.func74 ?_; clear HS; intro wt19 HS F) | ((with_reducible refine gd 40 rfl ?_); refine gg ?_; refine ev_cl HS (spec_l01In.calls ht22.out) Tryz.func74 ?_; clear HS; intro wt22 HS F) | ((with_reducible refine gd 45 rfl ?_); refine gg ?_; refine ev_cl HS (spec_PoliciesOk.calls ht25.out (HS.ro gp0) lp0) Tryz.func184 ?_; clear HS; intro wt25 HS F) | ((with_reducible refine gd 50 rfl ?_); refine gg ?_; refine ev_cl HS (spec_NamesOk.calls ht28.out (HS.ro gp1) lp1) Tryz.func185 ?_; clear HS; intro wt28 HS F) | ((with_reducible refine gd 55 rfl ?_); refine gg ?_; refine ev_cl HS (spec_NamesOk.calls ht31.out (HS.ro gp2) lp2) Tryz.func185 ?_; clear HS; intro wt31 HS F))
 go_ret
 exact HS.pk
def spec_l07Plain.l0 : Nat → Int → S182 → Option (Bool)
  | 0, _, _ => none
  | k + 1, x24, a0 => (if x24 < (a0.f1.size : Int) then (if 0 ≤ x24 then (if x24 < (a0.f1.size : Int) then (if (bt a0.f1 x24) < 32 then (some false) else (if 126 < (bt a0.f1 x24) then (some false) else (spec_l07Plain.l0 k (wrap64 (x24 + 1)) a0))) else none) else none) else (some true))
def spec_l07Plain.f (k : Nat) (a0 : S182) : Option (Bool) := (if a0.f0 = 1 then (if a0.f1.toList = ([0] : List UInt8) then (some true) else (some (a0.f1.toList == ([255] : List UInt8)))) else (if a0.f0 = 2 then ((spec_l01In.f (a0.f1.size : Int) 1 5).bind fun t6 => (if t6 = true then (if 0 < (a0.f1.size : Int) then (if 128 ≤ (bt a0.f1 0) then (some false) else (if (bt a0.f1 0) = 0 then (if (a0.f1.size : Int) = 1 then (some true) else (if 1 < (a0.f1.size : Int) then (some (decide (128 ≤ (bt a0.f1 1)))) else none)) else (some true))) else none) else (some false))) else (if a0.f0 = 12 then (spec_l07Plain.l0 k 0 a0) else (some (a0.f0 == 4)))))
theorem spec_l07Plain.calls {k : Nat} {a0 : S182} {Ap0 : Option Addr} {np0 cp0 : Nat} {r : Bool} {w : World} (h : spec_l07Plain.f k a0 = some r) (gp0 : k182.C w Ap0 np0 a0.f2) (lp0 : np0 ≤ cp0) :
    Calls Tryz.prog 234 #[.agg #[.int .i64 a0.f0, .string a0.f1, .slice Ap0 np0 cp0]] w (fun e w' => e = .returned (.bool r) ∧ Hp noFP w w' []) := by
 obtain rfl := C_len gp0
 have HS := Hp.start w
 have H := Aside0.mk h
 clear h
 unfold spec_l07Plain.f at H
 go_enter Tryz.func234, Tryz.ntmps234
 go_upto_if 6 with ((with_reducible refine gd 1 rfl ?_); refine ev_bx HS ?_; clear HS; intro g1 w1 HS F)
 replace H := zif' H; rcases H with ⟨c3, H⟩ | ⟨c3, H⟩
 case inl =>
  have c3a := beq_iff_eq.mpr c3
  have c3b := bne_eq_false_iff_eq.mpr c3
  clear c3
  (try simp only [c3a, c3b, dcn])
  replace H := znif' H; rcases H with ⟨c4, H⟩ | ⟨c4, H⟩
  case inl =>
   have c4a := beq_eq_false_iff_ne.mpr c4
   have c4b := bne_iff_ne.mpr c4
   clear c4
   obtain rfl := zsome H
   go_wp2
   go_ret
   exact HS.pk
  have c4a := beq_iff_eq.mpr c4
  have c4b := bne_eq_false_iff_eq.mpr c4
  clear c4
  obtain rfl := zsome H
  go_wp2
  go_ret
  exact HS.pk
 have c3a := beq_eq_false_iff_ne.mpr c3
 have c3b := bne_iff_ne.mpr c3
 clear c3
 (try simp only [c3a, c3b, dcn])
 replace H := znif' H; rcases H with ⟨c5, H⟩ | ⟨c5, H⟩
 case inl =>
  have c5a := beq_eq_false_iff_ne.mpr c5
  have c5b := bne_iff_ne.mpr c5
  clear c5
  replace H := znif' H; rcases H with ⟨c20, H⟩ | ⟨c20, H⟩
  case inl =>
   have c20a := beq_eq_false_iff_ne.mpr c20
   have c20b := bne_iff_ne.mpr c20
   clear c20
   obtain rfl := zsome H
   go_wp2
   go_ret
   exact HS.pk
  have c20a := beq_iff_eq.mpr c20
  have c20b := bne_eq_false_iff_eq.mpr c20
  clear c20
  go_wp2
  go_loopg [3] k (fun kq v_3 w' => ∃ (x24 : Int), v_3 = .int .i64 x24 ∧ Aside0 (spec_l07Plain.l0 kq x24 a0 = some r) ∧ Aside0 (kq ≤ k) ∧ Hp noFP w w' [.box g1 [.int .i64 a0.f0, .string a0.f1, .slice Ap0 a0.f2.length cp0] 182])
  case atStart => exact ⟨_, rfl, H, ⟨Nat.le_refl _⟩, HS⟩
  case round =>
   clear HS H; (try clear F)
   obtain ⟨x24, rfl, H, HKk23, HS⟩ := hrel
   have F := HS.boxes; simp only [bxn] at F
   cases gk with
   | zero => exact absurd H.out (by simp [spec_l07Plain.l0])
   | succ k23 =>
    simp only [spec_l07Plain.l0] at H
    replace H := znif H; rcases H with ⟨c26, H⟩ | ⟨c26, H⟩
    case inl =>
     obtain rfl := zsome H
     go_wp2
     go_ret
     exact HS.pk
    replace H := zgo H; obtain ⟨c27, H⟩ := H
    replace H := zgo H; obtain ⟨c28, H⟩ := H
    have hx29 := bt_at a0.f1 x24
    replace H := zif H; rcases H with ⟨c30, H⟩ | ⟨c30, H⟩
    case inl =>
     obtain rfl := zsome H
     go_wp2
     go_ret
     exact HS.pk
    have hx31 := bt_at a0.f1 x24
    replace H := zif H; rcases H with ⟨c32, H⟩ | ⟨c32, H⟩
    case inl =>
     obtain rfl := zsome H
     go_wp2
     go_ret
     exact HS.pk
    go_wp2
    go_roundg k23
    case measure => have := HKk23.out; omega
    case rel => exact ⟨_, rfl, H, ⟨by have := HKk23.out; omega⟩, HS.pick [0] (by decide) (by rfl)⟩
 have c5a := beq_iff_eq.mpr c5
 have c5b := bne_eq_false_iff_eq.mpr c5
 clear c5
 replace H := zbind H; obtain ⟨t6, ht6, H⟩ := H
 replace H := znifb H; rcases H with ⟨c8, H⟩ | ⟨c8, H⟩
 case inl =>
  subst c8
  obtain rfl := zsome H
  go_wp2_with ((with_reducible refine gd 21 rfl ?_); refine ev_cl HS (spec_l01In.calls ht6.out) Tryz.func74 ?_; clear HS; intro wt6 HS F)
  go_ret
  exact HS.pk
 subst c8
 replace H := zgo H; obtain ⟨c9, H⟩ := H
 have c9n : (0 < a0.f1.size) = True := eq_true (by have := of_eq_true c9; omega)
 go_upto_if 28 with ((with_reducible refine gd 21 rfl ?_); refine ev_cl HS (spec_l01In.calls ht6.out) Tryz.func74 ?_; clear HS; intro wt6 HS F; have hx10 : ∀ h : 0 < a0.f1.size, ((a0.f1[0]'h).toNat : Int) = bt a0.f1 0 := bt_at a0.f1 0; have hz11 : 0 < a0.f1.size := (by have := of_eq_true c9; omega))
 replace H := zif H; rcases H with ⟨c12, H⟩ | ⟨c12, H⟩
 case inl =>
  (try simp only [c12, dcn])
  obtain rfl := zsome H
  go_wp2
  go_ret
  exact HS.pk
 (try simp only [c12, dcn])
 have hx13 : ∀ h : 0 < a0.f1.size, ((a0.f1[0]'h).toNat : Int) = bt a0.f1 0 := bt_at a0.f1 0
 have hz14 : 0 < a0.f1.size := (by have := of_eq_true c9; omega)
 replace H := znif' H; rcases H with ⟨c15, H⟩ | ⟨c15, H⟩
 case inl =>
  have c15a := beq_eq_false_iff_ne.mpr c15
  have c15b := bne_iff_ne.mpr c15
  clear c15
  obtain rfl := zsome H
  go_wp2
  go_ret
  exact HS.pk
 have c15a := beq_iff_eq.mpr c15
 have c15b := bne_eq_false_iff_eq.mpr c15
 clear c15
 replace H := zif' H; rcases H with ⟨c16, H⟩ | ⟨c16, H⟩
 case inl =>
  have c16a := beq_iff_eq.mpr c16
  have c16b := bne_eq_false_iff_eq.mpr c16
  clear c16
  obtain rfl := zsome H
  go_wp2
  go_ret
  exact HS.pk
 have c16a := beq_eq_false_iff_ne.mpr c16
 have c16b := bne_iff_ne.mpr c16
 clear c16
 replace H := zgo H; obtain ⟨c17, H⟩ := H
 have c17n : (1 < a0.f1.size) = True := eq_true (by have := of_eq_true c17; omega)
 have hx18 : ∀ h : 1 < a0.f1.size, ((a0.f1[1]'h).toNat : Int) = bt a0.f1 1 := bt_at a0.f1 1
 have hz19 : 1 < a0.f1.size := (by have := of_eq_true c17; omega)
 obtain rfl := zsome H
 go_wp2
 go_ret
 exact HS.pk
mutual
def spec_l07Right.l0 : Nat → Int → S182 → Int → Option (Bool)
  | 0, _, _, _ => none
  | k + 1, x10, a0, a1 => (if x10 < (a0.f2.length : Int) then (if 0 ≤ x10 then (if x10 < (a0.f2.length : Int) then ((spec_l07Right.f k (rd_T182 a0.f2 x10) (wrap64 (a1 + 1))).bind fun t16 => (if t16 = true then (spec_l07Right.l0 k (wrap64 (x10 + 1)) a0 a1) else (some false))) else none) else none) else (some true))
def spec_l07Right.f : Nat → S182 → Int → Option (Bool)
  | 0, _, _ => none
  | k + 1, a0, a1 => (if a0.f0 = 48 then (if a0.f1.toList = ([] : List UInt8) then (if 40 < (a0.f2.length : Int) then (some false) else (if 6 ≤ a1 then (some false) else (spec_l07Right.l0 k 0 a0 a1))) else (some false)) else (if (a0.f2.length : Int) = 0 then ((spec_l07Plain.f k a0).bind fun t20 => (some t20)) else (some false)))
end
theorem spec_l07Right.calls_ (K : Nat) : ∀ {k : Nat} (hK : k ≤ K) {a0 : S182} {a1 : Int} {Ap0 : Option Addr} {np0 cp0 : Nat} {r : Bool} {w : World} (h : spec_l07Right.f k a0 a1 = some r) (gp0 : k182.C w Ap0 np0 a0.f2) (lp0 : np0 ≤ cp0),
    Calls Tryz.prog 222 #[.agg #[.int .i64 a0.f0, .string a0.f1, .slice Ap0 np0 cp0], .int .i64 a1] w (fun e w' => e = .returned (.bool r) ∧ Hp noFP w w' []) := by
  induction K with
  | zero =>
    intro k hK a0 a1 Ap0 np0 cp0 r w h gp0 lp0
    obtain rfl : k = 0 := by omega
    exact absurd h (by simp [spec_l07Right.f])
  | succ K IH =>
    intro k hK a0 a1 Ap0 np0 cp0 r w h gp0 lp0
    cases k with
    | zero => exact absurd h (by simp [spec_l07Right.f])
    | succ k =>
    have HK0 : Aside0 (k ≤ K) := ⟨by omega⟩
    clear hK
    obtain rfl := C_len gp0
    have HS := Hp.start w
    have H := Aside0.mk h
    clear h
    simp only [spec_l07Right.f] at H
    go_enter Tryz.func222, Tryz.ntmps222
    go_upto_if 8 with ((with_reducible refine gd 2 rfl ?_); refine ev_bx HS ?_; clear HS; intro g2 w2 HS F)
    replace H := znif' H; rcases H with ⟨c3, H⟩ | ⟨c3, H⟩
    case inl =>
     have c3a := beq_eq_false_iff_ne.mpr c3
     have c3b := bne_iff_ne.mpr c3
     clear c3
     (try simp only [c3a, c3b, dcn])
     replace H := znif' H; rcases H with ⟨c19, H⟩ | ⟨c19, H⟩
     case inl =>
      have c19a := beq_eq_false_iff_ne.mpr c19
      have c19b := bne_iff_ne.mpr c19
      clear c19
      obtain rfl := zsome H
      go_wp2
      go_ret
      exact HS.pk
     have c19a := beq_iff_eq.mpr c19
     have c19b := bne_eq_false_iff_eq.mpr c19
     clear c19
     replace H := zbind H; obtain ⟨t20, ht20, H⟩ := H
     obtain rfl := zsome H
     go_wp2_with ((with_reducible refine gd 15 rfl ?_); refine gg ?_; refine ev_cl HS (spec_l07Plain.calls ht20.out (HS.ro gp0) lp0) Tryz.func234 ?_; clear HS; intro wt20 HS F)
     go_ret
     exact HS.pk
    have c3a := beq_iff_eq.mpr c3
    have c3b := bne_eq_false_iff_eq.mpr c3
    clear c3
    (try simp only [c3a, c3b, dcn])
    replace H := znif' H; rcases H with ⟨c4, H⟩ | ⟨c4, H⟩
    case inl =>
     have c4a := beq_eq_false_iff_ne.mpr c4
     have c4b := bne_iff_ne.mpr c4
     have c4e := List.isEmpty_eq_false_iff.mpr c4
     clear c4
     obtain rfl := zsome H
     go_wp2
     go_ret
     exact HS.pk
    have c4a := beq_iff_eq.mpr c4
    have c4b := bne_eq_false_iff_eq.mpr c4
    have c4e := List.isEmpty_iff.mpr c4
    clear c4
    replace H := zif H; rcases H with ⟨c5, H⟩ | ⟨c5, H⟩
    case inl =>
     obtain rfl := zsome H
     go_wp2
     go_ret
     exact HS.pk
    replace H := zif H; rcases H with ⟨c6, H⟩ | ⟨c6, H⟩
    case inl =>
     obtain rfl := zsome H
     go_wp2
     go_ret
     exact HS.pk
    go_wp2
    go_loopg [5] k (fun kq v_5 w' => ∃ (x10 : Int), v_5 = .int .i64 x10 ∧ Aside0 (spec_l07Right.l0 kq x10 a0 a1 = some r) ∧ Aside0 (kq ≤ k) ∧ Hp noFP w w' [.box g2 [.int .i64 a0.f0, .string a0.f1, .slice Ap0 a0.f2.length cp0] 182])
    case atStart => exact ⟨_, rfl, H, ⟨Nat.le_refl _⟩, HS⟩
    case round =>
     clear HS H; (try clear F)
     obtain ⟨x10, rfl, H, HKk9, HS⟩ := hrel
     have F := HS.boxes; simp only [bxn] at F
     cases gk with
     | zero => exact absurd H.out (by simp [spec_l07Right.l0])
     | succ k9 =>
      simp only [spec_l07Right.l0] at H
      replace H := znif H; rcases H with ⟨c12, H⟩ | ⟨c12, H⟩
      case inl =>
       obtain rfl := zsome H
       go_wp2
       go_ret
       exact HS.pk
      replace H := zgo H; obtain ⟨c13, H⟩ := H
      replace H := zgo H; obtain ⟨c14, H⟩ := H
      obtain ⟨ad15, B15_2, d15_2, rfl, e15_0, e15_1, e15_2, m15_2, y15_2⟩ := at_T182 gp0 x10 (of_eq_true c13) (of_eq_true c14)
      have e15_0_15 := HS.keepc e15_0
      have e15_1_15 := HS.keepc e15_1
      have e15_2_15 := HS.keepc e15_2
      replace H := zbind H; obtain ⟨t16, ht16, H⟩ := H
      go_upto_if 45 with ((with_reducible refine gd 44 rfl ?_); refine ev_cl HS (IH (by have := HK0.out; have := HKk9.out; omega) ht16.out (HS.ro y15_2) m15_2) Tryz.func222 ?_; clear HS; intro wt16 HS F)
      replace H := znifb H; rcases H with ⟨c18, H⟩ | ⟨c18, H⟩
      case inl =>
       subst c18
       (try simp only [dcn, dcu, dcf])
       obtain rfl := zsome H
       go_wp2
       go_ret
       exact HS.pk
      subst c18
      (try simp only [dcn, dcu, dcf])
      go_wp2
      go_roundg k9
      case measure => have := HK0.out; have := HKk9.out; omega
      case rel => exact ⟨_, rfl, H, ⟨by have := HK0.out; have := HKk9.out; omega⟩, HS.pick [0] (by decide) (by rfl)⟩
theorem spec_l07Right.calls {k : Nat} {a0 : S182} {a1 : Int} {Ap0 : Option Addr} {np0 cp0 : Nat} {r : Bool} {w : World} (h : spec_l07Right.f k a0 a1 = some r) (gp0 : k182.C w Ap0 np0 a0.f2) (lp0 : np0 ≤ cp0) :
    Calls Tryz.prog 222 #[.agg #[.int .i64 a0.f0, .string a0.f1, .slice Ap0 np0 cp0], .int .i64 a1] w (fun e w' => e = .returned (.bool r) ∧ Hp noFP w w' []) := spec_l07Right.calls_ k (Nat.le_refl k) h gp0 lp0
def spec_ItemOk.f (k : Nat) (a0 : S182) : Option (Bool) := ((spec_l07Right.f k a0 0).bind fun t3 => (some t3))
theorem spec_ItemOk.calls {k : Nat} {a0 : S182} {Ap0 : Option Addr} {np0 cp0 : Nat} {r : Bool} {w : World} (h : spec_ItemOk.f k a0 = some r) (gp0 : k182.C w Ap0 np0 a0.f2) (lp0 : np0 ≤ cp0) :
    Calls Tryz.prog 190 #[.agg #[.int .i64 a0.f0, .string a0.f1, .slice Ap0 np0 cp0]] w (fun e w' => e = .returned (.bool r) ∧ Hp noFP w w' []) := by
 obtain rfl := C_len gp0
 have HS := Hp.start w
 have H := Aside0.mk h
 clear h
 unfold spec_ItemOk.f at H
 go_enter Tryz.func190, Tryz.ntmps190
 replace H := zbind H; obtain ⟨t3, ht3, H⟩ := H
 obtain rfl := zsome H
 go_wp2_with (first | ((with_reducible refine gd 1 rfl ?_); refine ev_bx HS ?_; clear HS; intro g1 w1 HS F) | ((with_reducible refine gd 4 rfl ?_); refine ev_cl HS (spec_l07Right.calls ht3.out (HS.ro gp0) lp0) Tryz.func222 ?_; clear HS; intro wt3 HS F))
 go_ret
 exact HS.pk
def spec_l07Length.l0 : Nat → Int → ByteArray → Option (ByteArray)
  | 0, _, _ => none
  | k + 1, x13, x14 => (if 0 < x13 then (if (strOfNums ([((Int.tmod x13 256) % 256)] : List Int)).size + x14.size ≤ 9223372036854775807 then (spec_l07Length.l0 k (wrap64 (Int.tdiv x13 256)) ((strOfNums ([((Int.tmod x13 256) % 256)] : List Int)) ++ x14)) else none) else (if (strOfNums ([((wrap64 (128 + (x14.size : Int))) % 256)] : List Int)).size + x14.size ≤ 9223372036854775807 then (some ((strOfNums ([((wrap64 (128 + (x14.size : Int))) % 256)] : List Int)) ++ x14)) else none))
def spec_l07Length.f (k : Nat) (a0 : Int) : Option (ByteArray) := (if a0 < 128 then (some (strOfNums ([(a0 % 256)] : List Int))) else (spec_l07Length.l0 k a0 (⟨#[]⟩ : ByteArray)))
theorem spec_l07Length.calls {k : Nat} {a0 : Int} {r : ByteArray} {w : World} (h : spec_l07Length.f k a0 = some r) :
    Calls Tryz.prog 223 #[.int .i64 a0] w (fun e w' => e = .returned (.string r) ∧ Hp noFP w w' []) := by
 have HS := Hp.start w
 have H := Aside0.mk h
 clear h
 unfold spec_l07Length.f at H
 go_enter Tryz.func223, Tryz.ntmps223
 replace H := zif H; rcases H with ⟨c1, H⟩ | ⟨c1, H⟩
 case inl =>
  obtain rfl := zsome H
  go_wp2_with (first | ((with_reducible refine gd 8 rfl ?_); refine ev_li (Zd.int .u8) [] ([(a0 % 256)] : List Int) ([.int .u8 (a0 % 256)] ++ []) HS (MadeL.cons (js1 := []) (c := [.int .u8 (a0 % 256)]) rfl (made_flat (fun _ => rfl)) MadeL.nil (by decide)) ?_; clear HS; intro v2 w2 HS F; obtain ⟨B2, d2, rfl, m2⟩ := HS.formn 1 0 rfl rfl) | ((with_reducible refine gd 9 rfl ?_); refine ev_val rfl (run_str rfl rfl Tryz.underlying225 Tryz.underlying5 Tryz.underlying9 (HS.rd 0 rfl)) ?_))
  go_ret
  exact HS.pk
 go_wp2
 go_loopg [0, 3] k (fun kq v_0 v_3 w' => ∃ (x13 : Int) (x14 : ByteArray), v_0 = .int .i64 x13 ∧ v_3 = .string x14 ∧ Aside0 (spec_l07Length.l0 kq x13 x14 = some r) ∧ Aside0 (kq ≤ k) ∧ Hp noFP w w' [])
 case atStart => exact ⟨_, _, rfl, rfl, H, ⟨Nat.le_refl _⟩, HS⟩
 case round =>
  clear HS H; (try clear F)
  obtain ⟨x13, x14, rfl, rfl, H, HKk12, HS⟩ := hrel
  cases gk with
  | zero => exact absurd H.out (by simp [spec_l07Length.l0])
  | succ k12 =>
   simp only [spec_l07Length.l0] at H
   replace H := znif H; rcases H with ⟨c16, H⟩ | ⟨c16, H⟩
   case inl =>
    replace H := zgo H; obtain ⟨c22, H⟩ := H
    obtain rfl := zsome H
    go_wp2_with (first | ((with_reducible refine gd 25 rfl ?_); refine ev_li (Zd.int .u8) [] ([((wrap64 (128 + (x14.size : Int))) % 256)] : List Int) ([.int .u8 ((wrap64 (128 + (x14.size : Int))) % 256)] ++ []) HS (MadeL.cons (js1 := []) (c := [.int .u8 ((wrap64 (128 + (x14.size : Int))) % 256)]) rfl (made_flat (fun _ => rfl)) MadeL.nil (by decide)) ?_; clear HS; intro v20 w20 HS F; obtain ⟨B20, d20, rfl, m20⟩ := HS.formn 1 0 rfl rfl) | ((with_reducible refine gd 26 rfl ?_); refine ev_val rfl (run_str rfl rfl Tryz.underlying225 Tryz.underlying5 Tryz.underlying9 (HS.rd 0 rfl)) ?_) | ((with_reducible refine gd 28 rfl ?_); refine ev_val rfl (run_cat rfl rfl rfl (of_eq_true c22)) ?_))
    go_ret
    exact HS.pk
   replace H := zgo H; obtain ⟨c19, H⟩ := H
   go_wp2_with (first | ((with_reducible refine gd 15 rfl ?_); refine ev_li (Zd.int .u8) [] ([((Int.tmod x13 256) % 256)] : List Int) ([.int .u8 ((Int.tmod x13 256) % 256)] ++ []) HS (MadeL.cons (js1 := []) (c := [.int .u8 ((Int.tmod x13 256) % 256)]) rfl (made_flat (fun _ => rfl)) MadeL.nil (by decide)) ?_; clear HS; intro v17 w17 HS F; obtain ⟨B17, d17, rfl, m17⟩ := HS.formn 1 0 rfl rfl) | ((with_reducible refine gd 16 rfl ?_); refine ev_val rfl (run_str rfl rfl Tryz.underlying225 Tryz.underlying5 Tryz.underlying9 (HS.rd 0 rfl)) ?_) | ((with_reducible refine gd 18 rfl ?_); refine ev_val rfl (run_cat rfl rfl rfl (of_eq_true c19)) ?_))
   go_roundg k12
   case measure => have := HKk12.out; omega
   case rel => exact ⟨_, _, rfl, rfl, H, ⟨by have := HKk12.out; omega⟩, HS.pick [] (by decide) (by rfl)⟩
mutual
def spec_l07Text.l0 : Nat → ByteArray → Int → S182 → Option (ByteArray)
  | 0, _, _, _ => none
  | k + 1, x11, x12, a0 => (if x12 < (a0.f2.length : Int) then (if 0 ≤ x12 then (if x12 < (a0.f2.length : Int) then ((spec_l07Text.f k (rd_T182 a0.f2 x12)).bind fun t18 => (if x11.size + t18.size ≤ 9223372036854775807 then (spec_l07Text.l0 k (x11 ++ t18) (wrap64 (x12 + 1)) a0) else none)) else none) else none) else ((spec_l07Length.f k (x11.size : Int)).bind fun t13 => (if (strOfNums ([(a0.f0 % 256)] : List Int)).size + t13.size ≤ 9223372036854775807 then (if ((strOfNums ([(a0.f0 % 256)] : List Int)) ++ t13).size + x11.size ≤ 9223372036854775807 then (some (((strOfNums ([(a0.f0 % 256)] : List Int)) ++ t13) ++ x11)) else none) else none)))
def spec_l07Text.f : Nat → S182 → Option (ByteArray)
  | 0, _ => none
  | k + 1, a0 => (if a0.f0 = 48 then (spec_l07Text.l0 k a0.f1 0 a0) else ((spec_l07Length.f k (a0.f1.size : Int)).bind fun t26 => (if (strOfNums ([(a0.f0 % 256)] : List Int)).size + t26.size ≤ 9223372036854775807 then (if ((strOfNums ([(a0.f0 % 256)] : List Int)) ++ t26).size + a0.f1.size ≤ 9223372036854775807 then (some (((strOfNums ([(a0.f0 % 256)] : List Int)) ++ t26) ++ a0.f1)) else none) else none)))
end
def spec_l07Text.T7 : TT := (true, [([], []), ([0], [0]), ([1], [1]), ([2], [2]), ([3], [3]), ([], []), ([5], [5]), ([6], [6]), ([4, 7], [4, 7]), ([], []), ([8, 9], [8, 9]), ([10, 7, 0, 1, 2, 3, 4, 5, 6, 7, 8, 9, 10], [10])])
theorem spec_l07Text.tT7 : rtab .any (opsOf Tryz.f191 7) = spec_l07Text.T7 := by kernel_rfl
theorem spec_l07Text.calls_ (K : Nat) : ∀ {k : Nat} (hK : k ≤ K) {a0 : S182} {Ap0 : Option Addr} {np0 cp0 : Nat} {r : ByteArray} {w : World} (h : spec_l07Text.f k a0 = some r) (gp0 : k182.C w Ap0 np0 a0.f2) (lp0 : np0 ≤ cp0),
    Calls Tryz.prog 191 #[.agg #[.int .i64 a0.f0, .string a0.f1, .slice Ap0 np0 cp0]] w (fun e w' => e = .returned (.string r) ∧ Hp noFP w w' []) := by
  induction K with
  | zero =>
    intro k hK a0 Ap0 np0 cp0 r w h gp0 lp0
    obtain rfl : k = 0 := by omega
    exact absurd h (by simp [spec_l07Text.f])
  | succ K IH =>
    intro k hK a0 Ap0 np0 cp0 r w h gp0 lp0
    cases k with
    | zero => exact absurd h (by simp [spec_l07Text.f])
    | succ k =>
    have HK0 : Aside0 (k ≤ K) := ⟨by omega⟩
    clear hK
    obtain rfl := C_len gp0
    have HS := Hp.start w
    have H := Aside0.mk h
    clear h
    simp only [spec_l07Text.f] at H
    go_enter Tryz.func191, Tryz.ntmps191
    go_upto_if 9 with ((with_reducible refine gd 1 rfl ?_); refine ev_bx HS ?_; clear HS; intro g1 w1 HS F)
    replace H := znif' H; rcases H with ⟨c3, H⟩ | ⟨c3, H⟩
    case inl =>
     have c3a := beq_eq_false_iff_ne.mpr c3
     have c3b := bne_iff_ne.mpr c3
     clear c3
     (try simp only [c3a, c3b, dcn])
     (try go_wp2)
     replace H := zbind H; obtain ⟨t26, ht26, H⟩ := H
     replace H := zgo H; obtain ⟨c27, H⟩ := H
     replace H := zgo H; obtain ⟨c28, H⟩ := H
     refine dr_start [] HS #[false, false, false, false, false, false, false, false, false, false, false, false] (by kernel_rfl) rfl rfl spec_l07Text.tT7 (fun w25 HT HS HH => ?_)
     (try clear F)
     refine join_ 0 #[true, true, true, true, true, true, true, true, true, true, true, true] (fun (v24 : Value) => ([(25, .pointer (some ⟨g1, 0, none⟩)), (26, .int .i64 a0.f0), (27, .int .u8 (a0.f0 % 256)), (28, v24), (29, .string (strOfNums ([(a0.f0 % 256)] : List Int))), (30, .string a0.f1), (31, .int .i64 (a0.f1.size : Int)), (32, .string t26), (33, .string ((strOfNums ([(a0.f0 % 256)] : List Int)) ++ t26)), (34, .string a0.f1), (35, .string (((strOfNums ([(a0.f0 % 256)] : List Int)) ++ t26) ++ a0.f1)), (2, .string (((strOfNums ([(a0.f0 % 256)] : List Int)) ++ t26) ++ a0.f1))] : List (Tmp × Value))) (fun (v24 : Value) w' => Hp noFP w w' [.box g1 [.int .i64 a0.f0, .string a0.f1, .slice Ap0 a0.f2.length cp0] 182, .own (Zd.slice 5 (Zd.int .u8)) ([(a0.f0 % 256)] : List Int) [v24]]) ?_ ?_
     rotate_left
     · intro hJ
       refine drq_of [(0, some 25), (1, some 26), (2, some 27), (5, some 30), (6, some 31), (9, some 34)] ?_
       repeat (first | refine drp HT ?_ | refine drt HT HH ?_)
       refine drq_end ?_
       refine dr_any [3, 7] HT (by kernel_rfl) (by decide) (AllReadyL.cons rfl (by decide) (fun K hK => ?_) (AllReadyL.cons rfl (by decide) (fun K hK => ?_) AllReadyL.nil))
       · refine if_li (Zd.int .u8) [] ([(a0.f0 % 256)] : List Int) ([.int .u8 (a0.f0 % 256)] ++ []) HS (MadeL.cons (js1 := []) (c := [.int .u8 (a0.f0 % 256)]) rfl (made_flat (fun _ => rfl)) MadeL.nil (by decide)) ?_; clear HS; intro v24 w24 HS F; obtain ⟨B24, d24, rfl, m24⟩ := HS.formn 1 1 rfl rfl
         refine nrm 28 hK ⟨_, HS⟩ (fun HH => ?_); clear hK K
         refine dr_any [4, 7] HT (by kernel_rfl) (by decide) (AllReadyL.cons rfl (by decide) (fun K hK => ?_) (AllReadyL.cons rfl (by decide) (fun K hK => ?_) AllReadyL.nil))
         · refine if_wp (by rfl) ?_; refine wp_run (run_str rfl rfl Tryz.underlying225 Tryz.underlying5 Tryz.underlying9 (HS.rd 1 rfl)) ?_
           (try simp only [hpn, hpm] at HS)
           have F := HS.boxes; simp only [bxn] at F
           refine nrm 29 hK ⟨_, HS⟩ (fun HH => ?_); clear hK K
           refine dr1 7 HT fun K hK => ?_
           refine go_cl HS (spec_l07Length.calls ht26.out) Tryz.func223 ?_; clear HS; intro wt26 HS F
           refine nrm 32 hK ⟨_, HS⟩ (fun HH => ?_); clear hK K
           refine dr_pure 8 (some 33) HT (v := .string ((strOfNums ([(a0.f0 % 256)] : List Int)) ++ t26)) (a' := ?_) rfl rfl (by kernel_rfl) (fun _ _ _ h => h) (.inl ⟨by rfl, fun w' => (run_cat rfl rfl rfl (of_eq_true c27))⟩) ?_ ?_
           rotate_left
           · simp only [Act.put, ptn]; rfl
           refine dr_pure 10 (some 35) HT (v := .string (((strOfNums ([(a0.f0 % 256)] : List Int)) ++ t26) ++ a0.f1)) (a' := ?_) rfl rfl (by kernel_rfl) (fun _ _ _ h => h) (.inl ⟨by rfl, fun w' => (run_cat rfl rfl rfl (of_eq_true c28))⟩) ?_ ?_
           rotate_left
           · simp only [Act.put, ptn]; rfl
           refine drq_of [(11, some 2)] ?_
           repeat (refine drp HT ?_)
           refine drq_end ?_
           refine norm_ ?_ (hJ (.slice B24 1 d24) _ (HS.arr [some 0, some 1] (by decide)))
           simp only [putAll, Act.put, ptn]
           (try rfl)
         · refine go_cl HS (spec_l07Length.calls ht26.out) Tryz.func223 ?_; clear HS; intro wt26 HS F
           refine nrm 32 hK ⟨_, HS⟩ (fun HH => ?_); clear hK K
           refine dr1 4 HT fun K hK => ?_
           refine if_wp (by rfl) ?_; refine wp_run (run_str rfl rfl Tryz.underlying225 Tryz.underlying5 Tryz.underlying9 (HS.rd 1 rfl)) ?_
           (try simp only [hpn, hpm] at HS)
           have F := HS.boxes; simp only [bxn] at F
           refine nrm 29 hK ⟨_, HS⟩ (fun HH => ?_); clear hK K
           refine dr_pure 8 (some 33) HT (v := .string ((strOfNums ([(a0.f0 % 256)] : List Int)) ++ t26)) (a' := ?_) rfl rfl (by kernel_rfl) (fun _ _ _ h => h) (.inl ⟨by rfl, fun w' => (run_cat rfl rfl rfl (of_eq_true c27))⟩) ?_ ?_
           rotate_left
           · simp only [Act.put, ptn]; rfl
           refine dr_pure 10 (some 35) HT (v := .string (((strOfNums ([(a0.f0 % 256)] : List Int)) ++ t26) ++ a0.f1)) (a' := ?_) rfl rfl (by kernel_rfl) (fun _ _ _ h => h) (.inl ⟨by rfl, fun w' => (run_cat rfl rfl rfl (of_eq_true c28))⟩) ?_ ?_
           rotate_left
           · simp only [Act.put, ptn]; rfl
           refine drq_of [(11, some 2)] ?_
           repeat (refine drp HT ?_)
           refine drq_end ?_
           refine norm_ ?_ (hJ (.slice B24 1 d24) _ (HS.arr [some 0, some 1] (by decide)))
           simp only [putAll, Act.put, ptn]
           (try rfl)
       · refine go_cl HS (spec_l07Length.calls ht26.out) Tryz.func223 ?_; clear HS; intro wt26 HS F
         refine nrm 32 hK ⟨_, HS⟩ (fun HH => ?_); clear hK K
         refine dr1 3 HT fun K hK => ?_
         refine if_li (Zd.int .u8) [] ([(a0.f0 % 256)] : List Int) ([.int .u8 (a0.f0 % 256)] ++ []) HS (MadeL.cons (js1 := []) (c := [.int .u8 (a0.f0 % 256)]) rfl (made_flat (fun _ => rfl)) MadeL.nil (by decide)) ?_; clear HS; intro v24 w24 HS F; obtain ⟨B24, d24, rfl, m24⟩ := HS.formn 1 1 rfl rfl
         refine nrm 28 hK ⟨_, HS⟩ (fun HH => ?_); clear hK K
         refine dr1 4 HT fun K hK => ?_
         refine if_wp (by rfl) ?_; refine wp_run (run_str rfl rfl Tryz.underlying225 Tryz.underlying5 Tryz.underlying9 (HS.rd 1 rfl)) ?_
         (try simp only [hpn, hpm] at HS)
         have F := HS.boxes; simp only [bxn] at F
         refine nrm 29 hK ⟨_, HS⟩ (fun HH => ?_); clear hK K
         refine dr_pure 8 (some 33) HT (v := .string ((strOfNums ([(a0.f0 % 256)] : List Int)) ++ t26)) (a' := ?_) rfl rfl (by kernel_rfl) (fun _ _ _ h => h) (.inl ⟨by rfl, fun w' => (run_cat rfl rfl rfl (of_eq_true c27))⟩) ?_ ?_
         rotate_left
         · simp only [Act.put, ptn]; rfl
         refine dr_pure 10 (some 35) HT (v := .string (((strOfNums ([(a0.f0 % 256)] : List Int)) ++ t26) ++ a0.f1)) (a' := ?_) rfl rfl (by kernel_rfl) (fun _ _ _ h => h) (.inl ⟨by rfl, fun w' => (run_cat rfl rfl rfl (of_eq_true c28))⟩) ?_ ?_
         rotate_left
         · simp only [Act.put, ptn]; rfl
         refine drq_of [(11, some 2)] ?_
         repeat (refine drp HT ?_)
         refine drq_end ?_
         refine norm_ ?_ (hJ (.slice B24 1 d24) _ (HS.arr [some 0, some 1] (by decide)))
         simp only [putAll, Act.put, ptn]
         (try rfl)
     rintro v24 w29 HS
     obtain ⟨B24, d24, rfl, m24⟩ := HS.formn 1 1 rfl (by first | rfl | simp)
     have F := HS.boxes; simp only [bxn] at F
     refine norm_ (a' := ?_) ?_ ?_
     rotate_left
     · simp only [putAll, Act.put, ptn]; rfl
     refine done_ (done_of HT.out (by kernel_rfl)) ?_
     obtain rfl := zsome H
     go_wp2
     go_ret
     exact HS.pk
    have c3a := beq_iff_eq.mpr c3
    have c3b := bne_eq_false_iff_eq.mpr c3
    clear c3
    (try simp only [c3a, c3b, dcn])
    go_wp2
    go_loopg [3, 4] k (fun kq v_3 v_4 w' => ∃ (x11 : ByteArray) (x12 : Int), v_3 = .string x11 ∧ v_4 = .int .i64 x12 ∧ Aside0 (spec_l07Text.l0 kq x11 x12 a0 = some r) ∧ Aside0 (kq ≤ k) ∧ Hp noFP w w' [.box g1 [.int .i64 a0.f0, .string a0.f1, .slice Ap0 a0.f2.length cp0] 182])
    case atStart => exact ⟨_, _, rfl, rfl, H, ⟨Nat.le_refl _⟩, HS⟩
    case round =>
     clear HS H; (try clear F)
     obtain ⟨x11, x12, rfl, rfl, H, HKk10, HS⟩ := hrel
     have F := HS.boxes; simp only [bxn] at F
     cases gk with
     | zero => exact absurd H.out (by simp [spec_l07Text.l0])
     | succ k10 =>
      simp only [spec_l07Text.l0] at H
      replace H := zif H; rcases H with ⟨c14, H⟩ | ⟨c14, H⟩
      case inl =>
       replace H := zgo H; obtain ⟨c15, H⟩ := H
       replace H := zgo H; obtain ⟨c16, H⟩ := H
       obtain ⟨ad17, B17_2, d17_2, rfl, e17_0, e17_1, e17_2, m17_2, y17_2⟩ := at_T182 gp0 x12 (of_eq_true c15) (of_eq_true c16)
       have e17_0_17 := HS.keepc e17_0
       have e17_1_17 := HS.keepc e17_1
       have e17_2_17 := HS.keepc e17_2
       replace H := zbind H; obtain ⟨t18, ht18, H⟩ := H
       replace H := zgo H; obtain ⟨c20, H⟩ := H
       go_wp2_with (first | ((with_reducible refine gd 23 rfl ?_); refine ev_cl HS (IH (by have := HK0.out; have := HKk10.out; omega) ht18.out (HS.ro y17_2) m17_2) Tryz.func191 ?_; clear HS; intro wt18 HS F) | ((with_reducible refine gd 24 rfl ?_); refine ev_val rfl (run_cat rfl rfl rfl (of_eq_true c20)) ?_))
       go_roundg k10
       case measure => have := HK0.out; have := HKk10.out; omega
       case rel => exact ⟨_, _, rfl, rfl, H, ⟨by have := HK0.out; have := HKk10.out; omega⟩, HS.pick [0] (by decide) (by rfl)⟩
      (try go_wp2)
      replace H := zbind H; obtain ⟨t13, ht13, H⟩ := H
      replace H := zgo H; obtain ⟨c19, H⟩ := H
      replace H := zgo H; obtain ⟨c21, H⟩ := H
      refine dr_start [] HS #[false, false, false, false, false, false, false, false, false, false, false, false] (by kernel_rfl) rfl rfl spec_l07Text.tT7 (fun w22 HT HS HH => ?_)
      (try clear F)
      refine join_ 0 #[true, true, true, true, true, true, true, true, true, true, true, true] (fun (v6 : Value) => ([(25, .pointer (some ⟨g1, 0, none⟩)), (26, .int .i64 a0.f0), (27, .int .u8 (a0.f0 % 256)), (28, v6), (29, .string (strOfNums ([(a0.f0 % 256)] : List Int))), (30, .string x11), (31, .int .i64 (x11.size : Int)), (32, .string t13), (33, .string ((strOfNums ([(a0.f0 % 256)] : List Int)) ++ t13)), (34, .string x11), (35, .string (((strOfNums ([(a0.f0 % 256)] : List Int)) ++ t13) ++ x11)), (2, .string (((strOfNums ([(a0.f0 % 256)] : List Int)) ++ t13) ++ x11))] : List (Tmp × Value))) (fun (v6 : Value) w' => Hp noFP w w' [.box g1 [.int .i64 a0.f0, .string a0.f1, .slice Ap0 a0.f2.length cp0] 182, .own (Zd.slice 5 (Zd.int .u8)) ([(a0.f0 % 256)] : List Int) [v6]]) ?_ ?_
      rotate_left
      · intro hJ
        refine drq_of [(0, some 25), (1, some 26), (2, some 27), (5, some 30), (6, some 31), (9, some 34)] ?_
        repeat (first | refine drp HT ?_ | refine drt HT HH ?_)
        refine drq_end ?_
        refine dr_any [3, 7] HT (by kernel_rfl) (by decide) (AllReadyL.cons rfl (by decide) (fun K hK => ?_) (AllReadyL.cons rfl (by decide) (fun K hK => ?_) AllReadyL.nil))
        · refine if_li (Zd.int .u8) [] ([(a0.f0 % 256)] : List Int) ([.int .u8 (a0.f0 % 256)] ++ []) HS (MadeL.cons (js1 := []) (c := [.int .u8 (a0.f0 % 256)]) rfl (made_flat (fun _ => rfl)) MadeL.nil (by decide)) ?_; clear HS; intro v6 w6 HS F; obtain ⟨B6, d6, rfl, m6⟩ := HS.formn 1 1 rfl rfl
          refine nrm 28 hK ⟨_, HS⟩ (fun HH => ?_); clear hK K
          refine dr_any [4, 7] HT (by kernel_rfl) (by decide) (AllReadyL.cons rfl (by decide) (fun K hK => ?_) (AllReadyL.cons rfl (by decide) (fun K hK => ?_) AllReadyL.nil))
          · refine if_wp (by rfl) ?_; refine wp_run (run_str rfl rfl Tryz.underlying225 Tryz.underlying5 Tryz.underlying9 (HS.rd 1 rfl)) ?_
            (try simp only [hpn, hpm] at HS)
            have F := HS.boxes; simp only [bxn] at F
            refine nrm 29 hK ⟨_, HS⟩ (fun HH => ?_); clear hK K
            refine dr1 7 HT fun K hK => ?_
            refine go_cl HS (spec_l07Length.calls ht13.out) Tryz.func223 ?_; clear HS; intro wt13 HS F
            refine nrm 32 hK ⟨_, HS⟩ (fun HH => ?_); clear hK K
            refine dr_pure 8 (some 33) HT (v := .string ((strOfNums ([(a0.f0 % 256)] : List Int)) ++ t13)) (a' := ?_) rfl rfl (by kernel_rfl) (fun _ _ _ h => h) (.inl ⟨by rfl, fun w' => (run_cat rfl rfl rfl (of_eq_true c19))⟩) ?_ ?_
            rotate_left
            · simp only [Act.put, ptn]; rfl
            refine dr_pure 10 (some 35) HT (v := .string (((strOfNums ([(a0.f0 % 256)] : List Int)) ++ t13) ++ x11)) (a' := ?_) rfl rfl (by kernel_rfl) (fun _ _ _ h => h) (.inl ⟨by rfl, fun w' => (run_cat rfl rfl rfl (of_eq_true c21))⟩) ?_ ?_
            rotate_left
            · simp only [Act.put, ptn]; rfl
            refine drq_of [(11, some 2)] ?_
            repeat (refine drp HT ?_)
            refine drq_end ?_
            refine norm_ ?_ (hJ (.slice B6 1 d6) _ (HS.arr [some 0, some 1] (by decide)))
            simp only [putAll, Act.put, ptn]
            (try rfl)
          · refine go_cl HS (spec_l07Length.calls ht13.out) Tryz.func223 ?_; clear HS; intro wt13 HS F
            refine nrm 32 hK ⟨_, HS⟩ (fun HH => ?_); clear hK K
            refine dr1 4 HT fun K hK => ?_
            refine if_wp (by rfl) ?_; refine wp_run (run_str rfl rfl Tryz.underlying225 Tryz.underlying5 Tryz.underlying9 (HS.rd 1 rfl)) ?_
            (try simp only [hpn, hpm] at HS)
            have F := HS.boxes; simp only [bxn] at F
            refine nrm 29 hK ⟨_, HS⟩ (fun HH => ?_); clear hK K
            refine dr_pure 8 (some 33) HT (v := .string ((strOfNums ([(a0.f0 % 256)] : List Int)) ++ t13)) (a' := ?_) rfl rfl (by kernel_rfl) (fun _ _ _ h => h) (.inl ⟨by rfl, fun w' => (run_cat rfl rfl rfl (of_eq_true c19))⟩) ?_ ?_
            rotate_left
            · simp only [Act.put, ptn]; rfl
            refine dr_pure 10 (some 35) HT (v := .string (((strOfNums ([(a0.f0 % 256)] : List Int)) ++ t13) ++ x11)) (a' := ?_) rfl rfl (by kernel_rfl) (fun _ _ _ h => h) (.inl ⟨by rfl, fun w' => (run_cat rfl rfl rfl (of_eq_true c21))⟩) ?_ ?_
            rotate_left
            · simp only [Act.put, ptn]; rfl
            refine drq_of [(11, some 2)] ?_
            repeat (refine drp HT ?_)
            refine drq_end ?_
            refine norm_ ?_ (hJ (.slice B6 1 d6) _ (HS.arr [some 0, some 1] (by decide)))
            simp only [putAll, Act.put, ptn]
            (try rfl)
        · refine go_cl HS (spec_l07Length.calls ht13.out) Tryz.func223 ?_; clear HS; intro wt13 HS F
          refine nrm 32 hK ⟨_, HS⟩ (fun HH => ?_); clear hK K
          refine dr1 3 HT fun K hK => ?_
          refine if_li (Zd.int .u8) [] ([(a0.f0 % 256)] : List Int) ([.int .u8 (a0.f0 % 256)] ++ []) HS (MadeL.cons (js1 := []) (c := [.int .u8 (a0.f0 % 256)]) rfl (made_flat (fun _ => rfl)) MadeL.nil (by decide)) ?_; clear HS; intro v6 w6 HS F; obtain ⟨B6, d6, rfl, m6⟩ := HS.formn 1 1 rfl rfl
          refine nrm 28 hK ⟨_, HS⟩ (fun HH => ?_); clear hK K
          refine dr1 4 HT fun K hK => ?_
          refine if_wp (by rfl) ?_; refine wp_run (run_str rfl rfl Tryz.underlying225 Tryz.underlying5 Tryz.underlying9 (HS.rd 1 rfl)) ?_
          (try simp only [hpn, hpm] at HS)
          have F := HS.boxes; simp only [bxn] at F
          refine nrm 29 hK ⟨_, HS⟩ (fun HH => ?_); clear hK K
          refine dr_pure 8 (some 33) HT (v := .string ((strOfNums ([(a0.f0 % 256)] : List Int)) ++ t13)) (a' := ?_) rfl rfl (by kernel_rfl) (fun _ _ _ h => h) (.inl ⟨by rfl, fun w' => (run_cat rfl rfl rfl (of_eq_true c19))⟩) ?_ ?_
          rotate_left
          · simp only [Act.put, ptn]; rfl
          refine dr_pure 10 (some 35) HT (v := .string (((strOfNums ([(a0.f0 % 256)] : List Int)) ++ t13) ++ x11)) (a' := ?_) rfl rfl (by kernel_rfl) (fun _ _ _ h => h) (.inl ⟨by rfl, fun w' => (run_cat rfl rfl rfl (of_eq_true c21))⟩) ?_ ?_
          rotate_left
          · simp only [Act.put, ptn]; rfl
          refine drq_of [(11, some 2)] ?_
          repeat (refine drp HT ?_)
          refine drq_end ?_
          refine norm_ ?_ (hJ (.slice B6 1 d6) _ (HS.arr [some 0, some 1] (by decide)))
          simp only [putAll, Act.put, ptn]
          (try rfl)
      rintro v6 w23 HS
      obtain ⟨B6, d6, rfl, m6⟩ := HS.formn 1 1 rfl (by first | rfl | simp)
      have F := HS.boxes; simp only [bxn] at F
      refine norm_ (a' := ?_) ?_ ?_
      rotate_left
      · simp only [putAll, Act.put, ptn]; rfl
      refine done_ (done_of HT.out (by kernel_rfl)) ?_
      obtain rfl := zsome H
      go_wp2
      go_ret
      exact HS.pk
theorem spec_l07Text.calls {k : Nat} {a0 : S182} {Ap0 : Option Addr} {np0 cp0 : Nat} {r : ByteArray} {w : World} (h : spec_l07Text.f k a0 = some r) (gp0 : k182.C w Ap0 np0 a0.f2) (lp0 : np0 ≤ cp0) :
    Calls Tryz.prog 191 #[.agg #[.int .i64 a0.f0, .string a0.f1, .slice Ap0 np0 cp0]] w (fun e w' => e = .returned (.string r) ∧ Hp noFP w w' []) := spec_l07Text.calls_ k (Nat.le_refl k) h gp0 lp0
def spec_ItemText.f (k : Nat) (a0 : S182) : Option (ByteArray × Bool) := ((spec_ItemOk.f k a0).bind fun t3 => (if t3 = true then ((spec_l07Text.f k a0).bind fun t6 => (if 4000 < (t6.size : Int) then (some ((⟨#[]⟩ : ByteArray), false)) else (some (t6, true)))) else (some ((⟨#[]⟩ : ByteArray), false))))
theorem spec_ItemText.calls {k : Nat} {a0 : S182} {Ap0 : Option Addr} {np0 cp0 : Nat} {r1 : ByteArray} {r2 : Bool} {w : World} (h : spec_ItemText.f k a0 = some (r1, r2)) (gp0 : k182.C w Ap0 np0 a0.f2) (lp0 : np0 ≤ cp0) :
    Calls Tryz.prog 134 #[.agg #[.int .i64 a0.f0, .string a0.f1, .slice Ap0 np0 cp0]] w (fun e w' => e = .returned (.tuple #[.string r1, .bool r2]) ∧ Hp noFP w w' []) := by
 obtain rfl := C_len gp0
 have HS := Hp.start w
 have H := Aside0.mk h
 clear h
 unfold spec_ItemText.f at H
 go_enter Tryz.func134, Tryz.ntmps134
 replace H := zbind H; obtain ⟨t3, ht3, H⟩ := H
 go_upto_if 7 with (first | ((with_reducible refine gd 1 rfl ?_); refine ev_bx HS ?_; clear HS; intro g1 w1 HS F) | ((with_reducible refine gd 6 rfl ?_); refine ev_cl HS (spec_ItemOk.calls ht3.out (HS.ro gp0) lp0) Tryz.func190 ?_; clear HS; intro wt3 HS F))
 replace H := znifb H; rcases H with ⟨c5, H⟩ | ⟨c5, H⟩
 case inl =>
  subst c5
  (try simp only [dcn, dcu, dcf])
  obtain ⟨rfl, rfl⟩ := zsome2 H
  go_wp2
  exact bodyPost_ret (results_list (rs := [.tmp 2, .tmp 3]) rfl (by simp) (.tmp (.tmp .nil))) rfl ⟨rfl, HS.pick [] (by decide) (by rfl)⟩
 subst c5
 (try simp only [dcn, dcu, dcf])
 replace H := zbind H; obtain ⟨t6, ht6, H⟩ := H
 go_upto_if 12 with ((with_reducible refine gd 9 rfl ?_); refine ev_cl HS (spec_l07Text.calls ht6.out (HS.ro gp0) lp0) Tryz.func191 ?_; clear HS; intro wt6 HS F)
 replace H := zif H; rcases H with ⟨c8, H⟩ | ⟨c8, H⟩
 case inl =>
  (try simp only [c8, dcn])
  obtain ⟨rfl, rfl⟩ := zsome2 H
  go_wp2
  exact bodyPost_ret (results_list (rs := [.tmp 2, .tmp 3]) rfl (by simp) (.tmp (.tmp .nil))) rfl ⟨rfl, HS.pick [] (by decide) (by rfl)⟩
 (try simp only [c8, dcn])
 obtain ⟨rfl, rfl⟩ := zsome2 H
 go_wp2
 exact bodyPost_ret (results_list (rs := [.tmp 2, .tmp 3]) rfl (by simp) (.tmp (.tmp .nil))) rfl ⟨rfl, HS.pick [] (by decide) (by rfl)⟩
def spec_l09Bytes.f (a0 : ByteArray) : Option (S182) := (some (⟨4, a0, ([] : List S182)⟩ : S182))
theorem spec_l09Bytes.calls {a0 : ByteArray} {r : S182} {w : World} (h : spec_l09Bytes.f a0 = some r) :
    Calls Tryz.prog 136 #[.string a0] w (fun e w' => ∃ v0_ : Value, e = .returned (.agg #[.int .i64 r.f0, .string r.f1, v0_]) ∧ Hp noFP w w' [.own (Zd.slice 182 q182) r.f2 [v0_]]) := by
 have HS := Hp.start w
 have H := Aside0.mk h
 clear h
 unfold spec_l09Bytes.f at H
 go_enter Tryz.func136, Tryz.ntmps136
 obtain rfl := zsome H
 go_wp2_with (first | ((with_reducible refine gd 2 rfl ?_); refine ev_bx HS ?_; clear HS; intro g2 w2 HS F) | ((with_reducible refine gate_store (p := 2) rfl ?_); refine ev_st 0 0 HS (seg := [.int .i64 4, .string a0, .slice none 0 0]) ?_; clear HS; intro w3 HS F))
 replace HS := HS.nil 182 q182
 exact bodyPost_ret (results_single rfl (.cell _ _ _ _ _ rfl (HS.boxAt (i := 0) rfl) Tryz.underlying182 rfl (by kernel_rfl) .nil)) rfl ⟨_, rfl, HS.pick [1] (by decide) (by rfl)⟩
end Go.Proofs.YtacocpknielofaaGreatDoor.F
