/- Functions of the program and of the law, and that their calls do what is written here. -/
import Derived.Test.YtacocpknielofaaGreatDoorZgFnExactStoreOka
namespace Go.Proofs.YtacocpknielofaaGreatDoor.F
open Go.RowKit Go.Proofs.YtacocpknielofaaGreatDoorW.PrintWords Go.Proofs.YtacocpknielofaaGreatDoorW.PrintLast Go.Proofs.YtacocpknielofaaGreatDoorW.PrintMore Go.Proofs.YtacocpknielofaaGreatDoor.Z
attribute [local go_sem] max2_int min2_int max_two min_two max_three min_three max_four min_four
set_option linter.unusedVariables false
set_option linter.unusedSimpArgs false
set_option maxRecDepth 100000
/-! ### spec_CertOk: function 122 -/
def spec_CertOk.f (k : Nat) (a0 : S91) : Option (Bool) := ((spec_l09Num.f a0.f0).bind fun t3 => (if t3 = true then ((spec_l09Num.f a0.f3).bind fun t6 => (if t6 = true then ((spec_l09Num.f a0.f4).bind fun t9 => (if t9 = true then ((spec_NameOk.f k a0.f1).bind fun t12 => (if t12 = true then ((spec_NameOk.f k a0.f2).bind fun t15 => (if t15 = true then (if (a0.f5.size : Int) = 15 then ((spec_l01In.f a0.f7 0 99).bind fun t19 => (if t19 = true then ((spec_l01In.f a0.f8 0 7).bind fun t22 => (if t22 = true then ((spec_PoliciesOk.f k a0.f9).bind fun t25 => (if t25 = true then ((spec_NamesOk.f k a0.f10).bind fun t28 => (if t28 = true then ((spec_NamesOk.f k a0.f11).bind fun t31 => (if t31 = true then (some ((a0.f12.size : Int) == 15)) else (some false))) else (some false))) else (some false))) else (some false))) else (some false))) else (some false)) else (some false))) else (some false))) else (some false))) else (some false))) else (some false)))
set_option maxHeartbeats 16000000 in
theorem spec_CertOk.calls {k : Nat} {a0 : S91} {Ap0 : Option Addr} {np0 cp0 : Nat} {Ap1 : Option Addr} {np1 cp1 : Nat} {Ap2 : Option Addr} {np2 cp2 : Nat} {r : Bool} {w : World} (h : spec_CertOk.f k a0 = some r) (gp0 : (Kd.int .i64).C w Ap0 np0 a0.f9) (lp0 : np0 ≤ cp0) (gp1 : Kd.string.C w Ap1 np1 a0.f10) (lp1 : np1 ≤ cp1) (gp2 : Kd.string.C w Ap2 np2 a0.f11) (lp2 : np2 ≤ cp2) :
    Calls Tryz.prog 122 #[.agg #[.int .i64 a0.f0, .string a0.f1, .string a0.f2, .int .i64 a0.f3, .int .i64 a0.f4, .string a0.f5, .bool a0.f6, .int .i64 a0.f7, .int .i64 a0.f8, .slice Ap0 np0 cp0, .slice Ap1 np1 cp1, .slice Ap2 np2 cp2, .string a0.f12]] w (fun e w' => e = .returned (.bool r) ∧ Hp noFP w w' []) := by
 obtain rfl := C_len gp0
 obtain rfl := C_len gp1
 obtain rfl := C_len gp2
 have HS := Hp.start w
 have H := Aside0.mk h
 clear h
 unfold spec_CertOk.f at H
 go_enter Tryz.func122, Tryz.ntmps122
 replace H := zbind H; obtain ⟨t3, ht3, H⟩ := H
 by_cases c5 : t3 = true
 case neg =>
  replace H := zneg c5 H
  replace c5 := eq_false_of_ne_true c5
  subst c5
  obtain rfl := zsome H
  go_wp2_with (first | ((with_reducible refine gate_dst (N := 1) rfl ?_); refine ev_bx HS ?_; clear HS; (try clear F); intro g1 w1 HS F) | ((with_reducible refine gate_dst (N := 5) rfl ?_); refine ev_cl HS (spec_l09Num.calls ht3.out) Tryz.func75 ?_; clear HS; (try clear F); intro wt3 HS F))
  go_ret
  exact HS.pk
 replace H := zpos c5 H
 subst c5
 replace H := zbind H; obtain ⟨t6, ht6, H⟩ := H
 by_cases c8 : t6 = true
 case neg =>
  replace H := zneg c8 H
  replace c8 := eq_false_of_ne_true c8
  subst c8
  obtain rfl := zsome H
  go_wp2_with (first | ((with_reducible refine gate_dst (N := 1) rfl ?_); refine ev_bx HS ?_; clear HS; (try clear F); intro g1 w1 HS F) | ((with_reducible refine gate_dst (N := 5) rfl ?_); refine ev_cl HS (spec_l09Num.calls ht3.out) Tryz.func75 ?_; clear HS; (try clear F); intro wt3 HS F) | ((with_reducible refine gate_dst (N := 9) rfl ?_); refine gate_guard (by rfl) ?_; refine ev_cl HS (spec_l09Num.calls ht6.out) Tryz.func75 ?_; clear HS; (try clear F); intro wt6 HS F))
  go_ret
  exact HS.pk
 replace H := zpos c8 H
 subst c8
 replace H := zbind H; obtain ⟨t9, ht9, H⟩ := H
 by_cases c11 : t9 = true
 case neg =>
  replace H := zneg c11 H
  replace c11 := eq_false_of_ne_true c11
  subst c11
  obtain rfl := zsome H
  go_wp2_with (first | ((with_reducible refine gate_dst (N := 1) rfl ?_); refine ev_bx HS ?_; clear HS; (try clear F); intro g1 w1 HS F) | ((with_reducible refine gate_dst (N := 5) rfl ?_); refine ev_cl HS (spec_l09Num.calls ht3.out) Tryz.func75 ?_; clear HS; (try clear F); intro wt3 HS F) | ((with_reducible refine gate_dst (N := 9) rfl ?_); refine gate_guard (by rfl) ?_; refine ev_cl HS (spec_l09Num.calls ht6.out) Tryz.func75 ?_; clear HS; (try clear F); intro wt6 HS F) | ((with_reducible refine gate_dst (N := 14) rfl ?_); refine gate_guard (by rfl) ?_; refine ev_cl HS (spec_l09Num.calls ht9.out) Tryz.func75 ?_; clear HS; (try clear F); intro wt9 HS F))
  go_ret
  exact HS.pk
 replace H := zpos c11 H
 subst c11
 replace H := zbind H; obtain ⟨t12, ht12, H⟩ := H
 by_cases c14 : t12 = true
 case neg =>
  replace H := zneg c14 H
  replace c14 := eq_false_of_ne_true c14
  subst c14
  obtain rfl := zsome H
  go_wp2_with (first | ((with_reducible refine gate_dst (N := 1) rfl ?_); refine ev_bx HS ?_; clear HS; (try clear F); intro g1 w1 HS F) | ((with_reducible refine gate_dst (N := 5) rfl ?_); refine ev_cl HS (spec_l09Num.calls ht3.out) Tryz.func75 ?_; clear HS; (try clear F); intro wt3 HS F) | ((with_reducible refine gate_dst (N := 9) rfl ?_); refine gate_guard (by rfl) ?_; refine ev_cl HS (spec_l09Num.calls ht6.out) Tryz.func75 ?_; clear HS; (try clear F); intro wt6 HS F) | ((with_reducible refine gate_dst (N := 14) rfl ?_); refine gate_guard (by rfl) ?_; refine ev_cl HS (spec_l09Num.calls ht9.out) Tryz.func75 ?_; clear HS; (try clear F); intro wt9 HS F) | ((with_reducible refine gate_dst (N := 19) rfl ?_); refine gate_guard (by rfl) ?_; refine ev_cl HS (spec_NameOk.calls ht12.out) Tryz.func139 ?_; clear HS; (try clear F); intro wt12 HS F))
  go_ret
  exact HS.pk
 replace H := zpos c14 H
 subst c14
 replace H := zbind H; obtain ⟨t15, ht15, H⟩ := H
 by_cases c17 : t15 = true
 case neg =>
  replace H := zneg c17 H
  replace c17 := eq_false_of_ne_true c17
  subst c17
  obtain rfl := zsome H
  go_wp2_with (first | ((with_reducible refine gate_dst (N := 1) rfl ?_); refine ev_bx HS ?_; clear HS; (try clear F); intro g1 w1 HS F) | ((with_reducible refine gate_dst (N := 5) rfl ?_); refine ev_cl HS (spec_l09Num.calls ht3.out) Tryz.func75 ?_; clear HS; (try clear F); intro wt3 HS F) | ((with_reducible refine gate_dst (N := 9) rfl ?_); refine gate_guard (by rfl) ?_; refine ev_cl HS (spec_l09Num.calls ht6.out) Tryz.func75 ?_; clear HS; (try clear F); intro wt6 HS F) | ((with_reducible refine gate_dst (N := 14) rfl ?_); refine gate_guard (by rfl) ?_; refine ev_cl HS (spec_l09Num.calls ht9.out) Tryz.func75 ?_; clear HS; (try clear F); intro wt9 HS F) | ((with_reducible refine gate_dst (N := 19) rfl ?_); refine gate_guard (by rfl) ?_; refine ev_cl HS (spec_NameOk.calls ht12.out) Tryz.func139 ?_; clear HS; (try clear F); intro wt12 HS F) | ((with_reducible refine gate_dst (N := 24) rfl ?_); refine gate_guard (by rfl) ?_; refine ev_cl HS (spec_NameOk.calls ht15.out) Tryz.func139 ?_; clear HS; (try clear F); intro wt15 HS F))
  go_ret
  exact HS.pk
 replace H := zpos c17 H
 subst c17
 by_cases c18 : (a0.f5.size : Int) = 15
 case neg =>
  replace H := zneg c18 H
  have c18a := beq_eq_false_iff_ne.mpr c18
  have c18b := bne_iff_ne.mpr c18
  clear c18
  obtain rfl := zsome H
  go_wp2_with (first | ((with_reducible refine gate_dst (N := 1) rfl ?_); refine ev_bx HS ?_; clear HS; (try clear F); intro g1 w1 HS F) | ((with_reducible refine gate_dst (N := 5) rfl ?_); refine ev_cl HS (spec_l09Num.calls ht3.out) Tryz.func75 ?_; clear HS; (try clear F); intro wt3 HS F) | ((with_reducible refine gate_dst (N := 9) rfl ?_); refine gate_guard (by rfl) ?_; refine ev_cl HS (spec_l09Num.calls ht6.out) Tryz.func75 ?_; clear HS; (try clear F); intro wt6 HS F) | ((with_reducible refine gate_dst (N := 14) rfl ?_); refine gate_guard (by rfl) ?_; refine ev_cl HS (spec_l09Num.calls ht9.out) Tryz.func75 ?_; clear HS; (try clear F); intro wt9 HS F) | ((with_reducible refine gate_dst (N := 19) rfl ?_); refine gate_guard (by rfl) ?_; refine ev_cl HS (spec_NameOk.calls ht12.out) Tryz.func139 ?_; clear HS; (try clear F); intro wt12 HS F) | ((with_reducible refine gate_dst (N := 24) rfl ?_); refine gate_guard (by rfl) ?_; refine ev_cl HS (spec_NameOk.calls ht15.out) Tryz.func139 ?_; clear HS; (try clear F); intro wt15 HS F))
  go_ret
  exact HS.pk
 replace H := zpos c18 H
 have c18a := beq_iff_eq.mpr c18
 have c18b := bne_eq_false_iff_eq.mpr c18
 clear c18
 replace H := zbind H; obtain ⟨t19, ht19, H⟩ := H
 by_cases c21 : t19 = true
 case neg =>
  replace H := zneg c21 H
  replace c21 := eq_false_of_ne_true c21
  subst c21
  obtain rfl := zsome H
  go_wp2_with (first | ((with_reducible refine gate_dst (N := 1) rfl ?_); refine ev_bx HS ?_; clear HS; (try clear F); intro g1 w1 HS F) | ((with_reducible refine gate_dst (N := 5) rfl ?_); refine ev_cl HS (spec_l09Num.calls ht3.out) Tryz.func75 ?_; clear HS; (try clear F); intro wt3 HS F) | ((with_reducible refine gate_dst (N := 9) rfl ?_); refine gate_guard (by rfl) ?_; refine ev_cl HS (spec_l09Num.calls ht6.out) Tryz.func75 ?_; clear HS; (try clear F); intro wt6 HS F) | ((with_reducible refine gate_dst (N := 14) rfl ?_); refine gate_guard (by rfl) ?_; refine ev_cl HS (spec_l09Num.calls ht9.out) Tryz.func75 ?_; clear HS; (try clear F); intro wt9 HS F) | ((with_reducible refine gate_dst (N := 19) rfl ?_); refine gate_guard (by rfl) ?_; refine ev_cl HS (spec_NameOk.calls ht12.out) Tryz.func139 ?_; clear HS; (try clear F); intro wt12 HS F) | ((with_reducible refine gate_dst (N := 24) rfl ?_); refine gate_guard (by rfl) ?_; refine ev_cl HS (spec_NameOk.calls ht15.out) Tryz.func139 ?_; clear HS; (try clear F); intro wt15 HS F) | ((with_reducible refine gate_dst (N := 35) rfl ?_); refine gate_guard (by rfl) ?_; refine ev_cl HS (spec_l01In.calls ht19.out) Tryz.func74 ?_; clear HS; (try clear F); intro wt19 HS F))
  go_ret
  exact HS.pk
 replace H := zpos c21 H
 subst c21
 replace H := zbind H; obtain ⟨t22, ht22, H⟩ := H
 by_cases c24 : t22 = true
 case neg =>
  replace H := zneg c24 H
  replace c24 := eq_false_of_ne_true c24
  subst c24
  obtain rfl := zsome H
  go_wp2_with (first | ((with_reducible refine gate_dst (N := 1) rfl ?_); refine ev_bx HS ?_; clear HS; (try clear F); intro g1 w1 HS F) | ((with_reducible refine gate_dst (N := 5) rfl ?_); refine ev_cl HS (spec_l09Num.calls ht3.out) Tryz.func75 ?_; clear HS; (try clear F); intro wt3 HS F) | ((with_reducible refine gate_dst (N := 9) rfl ?_); refine gate_guard (by rfl) ?_; refine ev_cl HS (spec_l09Num.calls ht6.out) Tryz.func75 ?_; clear HS; (try clear F); intro wt6 HS F) | ((with_reducible refine gate_dst (N := 14) rfl ?_); refine gate_guard (by rfl) ?_; refine ev_cl HS (spec_l09Num.calls ht9.out) Tryz.func75 ?_; clear HS; (try clear F); intro wt9 HS F) | ((with_reducible refine gate_dst (N := 19) rfl ?_); refine gate_guard (by rfl) ?_; refine ev_cl HS (spec_NameOk.calls ht12.out) Tryz.func139 ?_; clear HS; (try clear F); intro wt12 HS F) | ((with_reducible refine gate_dst (N := 24) rfl ?_); refine gate_guard (by rfl) ?_; refine ev_cl HS (spec_NameOk.calls ht15.out) Tryz.func139 ?_; clear HS; (try clear F); intro wt15 HS F) | ((with_reducible refine gate_dst (N := 35) rfl ?_); refine gate_guard (by rfl) ?_; refine ev_cl HS (spec_l01In.calls ht19.out) Tryz.func74 ?_; clear HS; (try clear F); intro wt19 HS F) | ((with_reducible refine gate_dst (N := 40) rfl ?_); refine gate_guard (by rfl) ?_; refine ev_cl HS (spec_l01In.calls ht22.out) Tryz.func74 ?_; clear HS; (try clear F); intro wt22 HS F))
  go_ret
  exact HS.pk
 replace H := zpos c24 H
 subst c24
 replace H := zbind H; obtain ⟨t25, ht25, H⟩ := H
 by_cases c27 : t25 = true
 case neg =>
  replace H := zneg c27 H
  replace c27 := eq_false_of_ne_true c27
  subst c27
  obtain rfl := zsome H
  go_wp2_with (first | ((with_reducible refine gate_dst (N := 1) rfl ?_); refine ev_bx HS ?_; clear HS; (try clear F); intro g1 w1 HS F) | ((with_reducible refine gate_dst (N := 5) rfl ?_); refine ev_cl HS (spec_l09Num.calls ht3.out) Tryz.func75 ?_; clear HS; (try clear F); intro wt3 HS F) | ((with_reducible refine gate_dst (N := 9) rfl ?_); refine gate_guard (by rfl) ?_; refine ev_cl HS (spec_l09Num.calls ht6.out) Tryz.func75 ?_; clear HS; (try clear F); intro wt6 HS F) | ((with_reducible refine gate_dst (N := 14) rfl ?_); refine gate_guard (by rfl) ?_; refine ev_cl HS (spec_l09Num.calls ht9.out) Tryz.func75 ?_; clear HS; (try clear F); intro wt9 HS F) | ((with_reducible refine gate_dst (N := 19) rfl ?_); refine gate_guard (by rfl) ?_; refine ev_cl HS (spec_NameOk.calls ht12.out) Tryz.func139 ?_; clear HS; (try clear F); intro wt12 HS F) | ((with_reducible refine gate_dst (N := 24) rfl ?_); refine gate_guard (by rfl) ?_; refine ev_cl HS (spec_NameOk.calls ht15.out) Tryz.func139 ?_; clear HS; (try clear F); intro wt15 HS F) | ((with_reducible refine gate_dst (N := 35) rfl ?_); refine gate_guard (by rfl) ?_; refine ev_cl HS (spec_l01In.calls ht19.out) Tryz.func74 ?_; clear HS; (try clear F); intro wt19 HS F) | ((with_reducible refine gate_dst (N := 40) rfl ?_); refine gate_guard (by rfl) ?_; refine ev_cl HS (spec_l01In.calls ht22.out) Tryz.func74 ?_; clear HS; (try clear F); intro wt22 HS F) | ((with_reducible refine gate_dst (N := 45) rfl ?_); refine gate_guard (by rfl) ?_; refine ev_cl HS (spec_PoliciesOk.calls ht25.out (HS.ro gp0) lp0) Tryz.func184 ?_; clear HS; (try clear F); intro wt25 HS F))
  go_ret
  exact HS.pk
 replace H := zpos c27 H
 subst c27
 replace H := zbind H; obtain ⟨t28, ht28, H⟩ := H
 by_cases c30 : t28 = true
 case neg =>
  replace H := zneg c30 H
  replace c30 := eq_false_of_ne_true c30
  subst c30
  obtain rfl := zsome H
  go_wp2_with (first | ((with_reducible refine gate_dst (N := 1) rfl ?_); refine ev_bx HS ?_; clear HS; (try clear F); intro g1 w1 HS F) | ((with_reducible refine gate_dst (N := 5) rfl ?_); refine ev_cl HS (spec_l09Num.calls ht3.out) Tryz.func75 ?_; clear HS; (try clear F); intro wt3 HS F) | ((with_reducible refine gate_dst (N := 9) rfl ?_); refine gate_guard (by rfl) ?_; refine ev_cl HS (spec_l09Num.calls ht6.out) Tryz.func75 ?_; clear HS; (try clear F); intro wt6 HS F) | ((with_reducible refine gate_dst (N := 14) rfl ?_); refine gate_guard (by rfl) ?_; refine ev_cl HS (spec_l09Num.calls ht9.out) Tryz.func75 ?_; clear HS; (try clear F); intro wt9 HS F) | ((with_reducible refine gate_dst (N := 19) rfl ?_); refine gate_guard (by rfl) ?_; refine ev_cl HS (spec_NameOk.calls ht12.out) Tryz.func139 ?_; clear HS; (try clear F); intro wt12 HS F) | ((with_reducible refine gate_dst (N := 24) rfl ?_); refine gate_guard (by rfl) ?_; refine ev_cl HS (spec_NameOk.calls ht15.out) Tryz.func139 ?_; clear HS; (try clear F); intro wt15 HS F) | ((with_reducible refine gate_dst (N := 35) rfl ?_); refine gate_guard (by rfl) ?_; refine ev_cl HS (spec_l01In.calls ht19.out) Tryz.func74 ?_; clear HS; (try clear F); intro wt19 HS F) | ((with_reducible refine gate_dst (N := 40) rfl ?_); refine gate_guard (by rfl) ?_; refine ev_cl HS (spec_l01In.calls ht22.out) Tryz.func74 ?_; clear HS; (try clear F); intro wt22 HS F) | ((with_reducible refine gate_dst (N := 45) rfl ?_); refine gate_guard (by rfl) ?_; refine ev_cl HS (spec_PoliciesOk.calls ht25.out (HS.ro gp0) lp0) Tryz.func184 ?_; clear HS; (try clear F); intro wt25 HS F) | ((with_reducible refine gate_dst (N := 50) rfl ?_); refine gate_guard (by rfl) ?_; refine ev_cl HS (spec_NamesOk.calls ht28.out (HS.ro gp1) lp1) Tryz.func185 ?_; clear HS; (try clear F); intro wt28 HS F))
  go_ret
  exact HS.pk
 replace H := zpos c30 H
 subst c30
 replace H := zbind H; obtain ⟨t31, ht31, H⟩ := H
 by_cases c33 : t31 = true
 case pos =>
  replace H := zpos c33 H
  subst c33
  obtain rfl := zsome H
  go_wp2_with (first | ((with_reducible refine gate_dst (N := 1) rfl ?_); refine ev_bx HS ?_; clear HS; (try clear F); intro g1 w1 HS F) | ((with_reducible refine gate_dst (N := 5) rfl ?_); refine ev_cl HS (spec_l09Num.calls ht3.out) Tryz.func75 ?_; clear HS; (try clear F); intro wt3 HS F) | ((with_reducible refine gate_dst (N := 9) rfl ?_); refine gate_guard (by rfl) ?_; refine ev_cl HS (spec_l09Num.calls ht6.out) Tryz.func75 ?_; clear HS; (try clear F); intro wt6 HS F) | ((with_reducible refine gate_dst (N := 14) rfl ?_); refine gate_guard (by rfl) ?_; refine ev_cl HS (spec_l09Num.calls ht9.out) Tryz.func75 ?_; clear HS; (try clear F); intro wt9 HS F) | ((with_reducible refine gate_dst (N := 19) rfl ?_); refine gate_guard (by rfl) ?_; refine ev_cl HS (spec_NameOk.calls ht12.out) Tryz.func139 ?_; clear HS; (try clear F); intro wt12 HS F) | ((with_reducible refine gate_dst (N := 24) rfl ?_); refine gate_guard (by rfl) ?_; refine ev_cl HS (spec_NameOk.calls ht15.out) Tryz.func139 ?_; clear HS; (try clear F); intro wt15 HS F) | ((with_reducible refine gate_dst (N := 35) rfl ?_); refine gate_guard (by rfl) ?_; refine ev_cl HS (spec_l01In.calls ht19.out) Tryz.func74 ?_; clear HS; (try clear F); intro wt19 HS F) | ((with_reducible refine gate_dst (N := 40) rfl ?_); refine gate_guard (by rfl) ?_; refine ev_cl HS (spec_l01In.calls ht22.out) Tryz.func74 ?_; clear HS; (try clear F); intro wt22 HS F) | ((with_reducible refine gate_dst (N := 45) rfl ?_); refine gate_guard (by rfl) ?_; refine ev_cl HS (spec_PoliciesOk.calls ht25.out (HS.ro gp0) lp0) Tryz.func184 ?_; clear HS; (try clear F); intro wt25 HS F) | ((with_reducible refine gate_dst (N := 50) rfl ?_); refine gate_guard (by rfl) ?_; refine ev_cl HS (spec_NamesOk.calls ht28.out (HS.ro gp1) lp1) Tryz.func185 ?_; clear HS; (try clear F); intro wt28 HS F) | ((with_reducible refine gate_dst (N := 55) rfl ?_); refine gate_guard (by rfl) ?_; refine ev_cl HS (spec_NamesOk.calls ht31.out (HS.ro gp2) lp2) Tryz.func185 ?_; clear HS; (try clear F); intro wt31 HS F))
  go_ret
  exact HS.pk
 replace H := zneg c33 H
 replace c33 := eq_false_of_ne_true c33
 subst c33
 obtain rfl := zsome H
 go_wp2_with (first | ((with_reducible refine gate_dst (N := 1) rfl ?_); refine ev_bx HS ?_; clear HS; (try clear F); intro g1 w1 HS F) | ((with_reducible refine gate_dst (N := 5) rfl ?_); refine ev_cl HS (spec_l09Num.calls ht3.out) Tryz.func75 ?_; clear HS; (try clear F); intro wt3 HS F) | ((with_reducible refine gate_dst (N := 9) rfl ?_); refine gate_guard (by rfl) ?_; refine ev_cl HS (spec_l09Num.calls ht6.out) Tryz.func75 ?_; clear HS; (try clear F); intro wt6 HS F) | ((with_reducible refine gate_dst (N := 14) rfl ?_); refine gate_guard (by rfl) ?_; refine ev_cl HS (spec_l09Num.calls ht9.out) Tryz.func75 ?_; clear HS; (try clear F); intro wt9 HS F) | ((with_reducible refine gate_dst (N := 19) rfl ?_); refine gate_guard (by rfl) ?_; refine ev_cl HS (spec_NameOk.calls ht12.out) Tryz.func139 ?_; clear HS; (try clear F); intro wt12 HS F) | ((with_reducible refine gate_dst (N := 24) rfl ?_); refine gate_guard (by rfl) ?_; refine ev_cl HS (spec_NameOk.calls ht15.out) Tryz.func139 ?_; clear HS; (try clear F); intro wt15 HS F) | ((with_reducible refine gate_dst (N := 35) rfl ?_); refine gate_guard (by rfl) ?_; refine ev_cl HS (spec_l01In.calls ht19.out) Tryz.func74 ?_; clear HS; (try clear F); intro wt19 HS F) | ((with_reducible refine gate_dst (N := 40) rfl ?_); refine gate_guard (by rfl) ?_; refine ev_cl HS (spec_l01In.calls ht22.out) Tryz.func74 ?_; clear HS; (try clear F); intro wt22 HS F) | ((with_reducible refine gate_dst (N := 45) rfl ?_); refine gate_guard (by rfl) ?_; refine ev_cl HS (spec_PoliciesOk.calls ht25.out (HS.ro gp0) lp0) Tryz.func184 ?_; clear HS; (try clear F); intro wt25 HS F) | ((with_reducible refine gate_dst (N := 50) rfl ?_); refine gate_guard (by rfl) ?_; refine ev_cl HS (spec_NamesOk.calls ht28.out (HS.ro gp1) lp1) Tryz.func185 ?_; clear HS; (try clear F); intro wt28 HS F) | ((with_reducible refine gate_dst (N := 55) rfl ?_); refine gate_guard (by rfl) ?_; refine ev_cl HS (spec_NamesOk.calls ht31.out (HS.ro gp2) lp2) Tryz.func185 ?_; clear HS; (try clear F); intro wt31 HS F))
 go_ret
 exact HS.pk
/-! ### spec_l07Plain: function 234 -/
def spec_l07Plain.l0 : Nat → Int → S182 → Option (Bool)
  | 0, _, _ => none
  | k + 1, x24, a0 => (if x24 < (a0.f1.size : Int) then (if 0 ≤ x24 then (if x24 < (a0.f1.size : Int) then (if (bt a0.f1 x24) < 32 then (some false) else (if 126 < (bt a0.f1 x24) then (some false) else (spec_l07Plain.l0 k (wrap64 (x24 + 1)) a0))) else none) else none) else (some true))
def spec_l07Plain.f (k : Nat) (a0 : S182) : Option (Bool) := (if a0.f0 = 1 then (if a0.f1.toList = ([0] : List UInt8) then (some true) else (some (a0.f1.toList == ([255] : List UInt8)))) else (if a0.f0 = 2 then ((spec_l01In.f (a0.f1.size : Int) 1 5).bind fun t6 => (if t6 = true then (if 0 < (a0.f1.size : Int) then (if 128 ≤ (bt a0.f1 0) then (some false) else (if (bt a0.f1 0) = 0 then (if (a0.f1.size : Int) = 1 then (some true) else (if 1 < (a0.f1.size : Int) then (some (decide (128 ≤ (bt a0.f1 1)))) else none)) else (some true))) else none) else (some false))) else (if a0.f0 = 12 then (spec_l07Plain.l0 k 0 a0) else (some (a0.f0 == 4)))))
set_option maxHeartbeats 16000000 in
theorem spec_l07Plain.calls {k : Nat} {a0 : S182} {Ap0 : Option Addr} {np0 cp0 : Nat} {r : Bool} {w : World} (h : spec_l07Plain.f k a0 = some r) (gp0 : k182.C w Ap0 np0 a0.f2) (lp0 : np0 ≤ cp0) :
    Calls Tryz.prog 234 #[.agg #[.int .i64 a0.f0, .string a0.f1, .slice Ap0 np0 cp0]] w (fun e w' => e = .returned (.bool r) ∧ Hp noFP w w' []) := by
 obtain rfl := C_len gp0
 have HS := Hp.start w
 have H := Aside0.mk h
 clear h
 unfold spec_l07Plain.f at H
 go_enter Tryz.func234, Tryz.ntmps234
 go_upto_if 6 with (first | ((with_reducible refine gate_dst (N := 1) rfl ?_); refine ev_bx HS ?_; clear HS; (try clear F); intro g1 w1 HS F))
 by_cases c3 : a0.f0 = 1
 case pos =>
  replace H := zpos c3 H
  have c3a := beq_iff_eq.mpr c3
  have c3b := bne_eq_false_iff_eq.mpr c3
  clear c3
  (try simp only [c3a, c3b, dcn])
  by_cases c4 : a0.f1.toList = ([0] : List UInt8)
  case neg =>
   replace H := zneg c4 H
   have c4a := beq_eq_false_iff_ne.mpr c4
   have c4b := bne_iff_ne.mpr c4
   clear c4
   obtain rfl := zsome H
   go_wp2
   go_ret
   exact HS.pk
  replace H := zpos c4 H
  have c4a := beq_iff_eq.mpr c4
  have c4b := bne_eq_false_iff_eq.mpr c4
  clear c4
  obtain rfl := zsome H
  go_wp2
  go_ret
  exact HS.pk
 replace H := zneg c3 H
 have c3a := beq_eq_false_iff_ne.mpr c3
 have c3b := bne_iff_ne.mpr c3
 clear c3
 (try simp only [c3a, c3b, dcn])
 by_cases c5 : a0.f0 = 2
 case neg =>
  replace H := zneg c5 H
  have c5a := beq_eq_false_iff_ne.mpr c5
  have c5b := bne_iff_ne.mpr c5
  clear c5
  by_cases c20 : a0.f0 = 12
  case neg =>
   replace H := zneg c20 H
   have c20a := beq_eq_false_iff_ne.mpr c20
   have c20b := bne_iff_ne.mpr c20
   clear c20
   obtain rfl := zsome H
   go_wp2
   go_ret
   exact HS.pk
  replace H := zpos c20 H
  have c20a := beq_iff_eq.mpr c20
  have c20b := bne_eq_false_iff_eq.mpr c20
  clear c20
  go_wp2
  go_loopg [3] k (fun kq v_3 w' => ∃ (x24 : Int), v_3 = .int .i64 x24 ∧ Aside0 (spec_l07Plain.l0 kq x24 a0 = some r) ∧ Aside0 (kq ≤ k) ∧ Hp noFP w w' [.box g1 [.int .i64 a0.f0, .string a0.f1, .slice Ap0 a0.f2.length cp0] 182])
  case atStart => exact ⟨_, rfl, H, ⟨Nat.le_refl _⟩, HS⟩
  case round =>
   clear HS H; (try clear F)
   obtain ⟨x24, rfl, H, HKk23, HS⟩ := hrel
   have F := HS.boxes; simp only [bxn] at F
   cases gk with
   | zero => exact absurd H.out (by simp [spec_l07Plain.l0])
   | succ k23 =>
    simp only [spec_l07Plain.l0] at H
    by_cases c26 : x24 < (a0.f1.size : Int)
    case neg =>
     replace H := zneg c26 H
     replace c26 := eq_false c26
     obtain rfl := zsome H
     go_wp2
     go_ret
     exact HS.pk
    replace H := zpos c26 H
    replace c26 := eq_true c26
    obtain ⟨c27, H⟩ := zgo H
    obtain ⟨c28, H⟩ := zgo H
    have hx29 := bt_at a0.f1 x24
    by_cases c30 : (bt a0.f1 x24) < 32
    case pos =>
     replace H := zpos c30 H
     replace c30 := eq_true c30
     obtain rfl := zsome H
     go_wp2
     go_ret
     exact HS.pk
    replace H := zneg c30 H
    replace c30 := eq_false c30
    have hx31 := bt_at a0.f1 x24
    by_cases c32 : 126 < (bt a0.f1 x24)
    case pos =>
     replace H := zpos c32 H
     replace c32 := eq_true c32
     obtain rfl := zsome H
     go_wp2
     go_ret
     exact HS.pk
    replace H := zneg c32 H
    replace c32 := eq_false c32
    go_wp2
    go_roundg k23
    case measure => have := HKk23.out; omega
    case rel => exact ⟨_, rfl, H, ⟨by have := HKk23.out; omega⟩, HS.pick [0] (by decide) (by rfl)⟩
 replace H := zpos c5 H
 have c5a := beq_iff_eq.mpr c5
 have c5b := bne_eq_false_iff_eq.mpr c5
 clear c5
 replace H := zbind H; obtain ⟨t6, ht6, H⟩ := H
 by_cases c8 : t6 = true
 case neg =>
  replace H := zneg c8 H
  replace c8 := eq_false_of_ne_true c8
  subst c8
  obtain rfl := zsome H
  go_wp2_with (first | ((with_reducible refine gate_dst (N := 21) rfl ?_); refine ev_cl HS (spec_l01In.calls ht6.out) Tryz.func74 ?_; clear HS; (try clear F); intro wt6 HS F))
  go_ret
  exact HS.pk
 replace H := zpos c8 H
 subst c8
 obtain ⟨c9, H⟩ := zgo H
 have c9n : (0 < a0.f1.size) = True := eq_true (by have := of_eq_true c9; omega)
 go_upto_if 28 with (first | ((with_reducible refine gate_dst (N := 21) rfl ?_); refine ev_cl HS (spec_l01In.calls ht6.out) Tryz.func74 ?_; clear HS; (try clear F); intro wt6 HS F; have hx10 : ∀ h : 0 < a0.f1.size, ((a0.f1[0]'h).toNat : Int) = bt a0.f1 0 := bt_at a0.f1 0; have hz11 : 0 < a0.f1.size := (by have := of_eq_true c9; omega)))
 by_cases c12 : 128 ≤ (bt a0.f1 0)
 case pos =>
  replace H := zpos c12 H
  replace c12 := eq_true c12
  (try simp only [c12, dcn])
  obtain rfl := zsome H
  go_wp2
  go_ret
  exact HS.pk
 replace H := zneg c12 H
 replace c12 := eq_false c12
 (try simp only [c12, dcn])
 have hx13 : ∀ h : 0 < a0.f1.size, ((a0.f1[0]'h).toNat : Int) = bt a0.f1 0 := bt_at a0.f1 0
 have hz14 : 0 < a0.f1.size := (by have := of_eq_true c9; omega)
 by_cases c15 : (bt a0.f1 0) = 0
 case neg =>
  replace H := zneg c15 H
  have c15a := beq_eq_false_iff_ne.mpr c15
  have c15b := bne_iff_ne.mpr c15
  clear c15
  obtain rfl := zsome H
  go_wp2
  go_ret
  exact HS.pk
 replace H := zpos c15 H
 have c15a := beq_iff_eq.mpr c15
 have c15b := bne_eq_false_iff_eq.mpr c15
 clear c15
 by_cases c16 : (a0.f1.size : Int) = 1
 case pos =>
  replace H := zpos c16 H
  have c16a := beq_iff_eq.mpr c16
  have c16b := bne_eq_false_iff_eq.mpr c16
  clear c16
  obtain rfl := zsome H
  go_wp2
  go_ret
  exact HS.pk
 replace H := zneg c16 H
 have c16a := beq_eq_false_iff_ne.mpr c16
 have c16b := bne_iff_ne.mpr c16
 clear c16
 obtain ⟨c17, H⟩ := zgo H
 have c17n : (1 < a0.f1.size) = True := eq_true (by have := of_eq_true c17; omega)
 have hx18 : ∀ h : 1 < a0.f1.size, ((a0.f1[1]'h).toNat : Int) = bt a0.f1 1 := bt_at a0.f1 1
 have hz19 : 1 < a0.f1.size := (by have := of_eq_true c17; omega)
 obtain rfl := zsome H
 go_wp2
 go_ret
 exact HS.pk
/-! ### spec_l07Right: function 222 -/
mutual
def spec_l07Right.l0 : Nat → Int → S182 → Int → Option (Bool)
  | 0, _, _, _ => none
  | k + 1, x10, a0, a1 => (if x10 < (a0.f2.length : Int) then (if 0 ≤ x10 then (if x10 < (a0.f2.length : Int) then ((spec_l07Right.f k (rd_T182 a0.f2 x10) (wrap64 (a1 + 1))).bind fun t16 => (if t16 = true then (spec_l07Right.l0 k (wrap64 (x10 + 1)) a0 a1) else (some false))) else none) else none) else (some true))
def spec_l07Right.f : Nat → S182 → Int → Option (Bool)
  | 0, _, _ => none
  | k + 1, a0, a1 => (if a0.f0 = 48 then (if a0.f1.toList = ([] : List UInt8) then (if 40 < (a0.f2.length : Int) then (some false) else (if 6 ≤ a1 then (some false) else (spec_l07Right.l0 k 0 a0 a1))) else (some false)) else (if (a0.f2.length : Int) = 0 then ((spec_l07Plain.f k a0).bind fun t20 => (some t20)) else (some false)))
end
set_option maxHeartbeats 16000000 in
theorem spec_l07Right.calls_ (K : Nat) : ∀ {k : Nat} (hK : k ≤ K) {a0 : S182} {a1 : Int} {Ap0 : Option Addr} {np0 cp0 : Nat} {r : Bool} {w : World} (h : spec_l07Right.f k a0 a1 = some r) (gp0 : k182.C w Ap0 np0 a0.f2) (lp0 : np0 ≤ cp0),
    Calls Tryz.prog 222 #[.agg #[.int .i64 a0.f0, .string a0.f1, .slice Ap0 np0 cp0], .int .i64 a1] w (fun e w' => e = .returned (.bool r) ∧ Hp noFP w w' []) := by
  induction K with
  | zero =>
    intro k hK a0 a1 Ap0 np0 cp0 r w h gp0 lp0
    obtain rfl : k = 0 := by omega
    exact absurd h (by simp [spec_l07Right.f])
  | succ K IH =>
    intro k hK a0 a1 Ap0 np0 cp0 r w h gp0 lp0
    cases k with
    | zero => exact absurd h (by simp [spec_l07Right.f])
    | succ k =>
    have HK0 : Aside0 (k ≤ K) := ⟨by omega⟩
    clear hK
    obtain rfl := C_len gp0
    have HS := Hp.start w
    have H := Aside0.mk h
    clear h
    simp only [spec_l07Right.f] at H
    go_enter Tryz.func222, Tryz.ntmps222
    go_upto_if 8 with (first | ((with_reducible refine gate_dst (N := 2) rfl ?_); refine ev_bx HS ?_; clear HS; (try clear F); intro g2 w2 HS F))
    by_cases c3 : a0.f0 = 48
    case neg =>
     replace H := zneg c3 H
     have c3a := beq_eq_false_iff_ne.mpr c3
     have c3b := bne_iff_ne.mpr c3
     clear c3
     (try simp only [c3a, c3b, dcn])
     by_cases c19 : (a0.f2.length : Int) = 0
     case neg =>
      replace H := zneg c19 H
      have c19a := beq_eq_false_iff_ne.mpr c19
      have c19b := bne_iff_ne.mpr c19
      clear c19
      obtain rfl := zsome H
      go_wp2
      go_ret
      exact HS.pk
     replace H := zpos c19 H
     have c19a := beq_iff_eq.mpr c19
     have c19b := bne_eq_false_iff_eq.mpr c19
     clear c19
     replace H := zbind H; obtain ⟨t20, ht20, H⟩ := H
     obtain rfl := zsome H
     go_wp2_with (first | ((with_reducible refine gate_dst (N := 15) rfl ?_); refine gate_guard (by rfl) ?_; refine ev_cl HS (spec_l07Plain.calls ht20.out (HS.ro gp0) lp0) Tryz.func234 ?_; clear HS; (try clear F); intro wt20 HS F))
     go_ret
     exact HS.pk
    replace H := zpos c3 H
    have c3a := beq_iff_eq.mpr c3
    have c3b := bne_eq_false_iff_eq.mpr c3
    clear c3
    (try simp only [c3a, c3b, dcn])
    by_cases c4 : a0.f1.toList = ([] : List UInt8)
    case neg =>
     replace H := zneg c4 H
     have c4a := beq_eq_false_iff_ne.mpr c4
     have c4b := bne_iff_ne.mpr c4
     have c4e := List.isEmpty_eq_false_iff.mpr c4
     clear c4
     obtain rfl := zsome H
     go_wp2
     go_ret
     exact HS.pk
    replace H := zpos c4 H
    have c4a := beq_iff_eq.mpr c4
    have c4b := bne_eq_false_iff_eq.mpr c4
    have c4e := List.isEmpty_iff.mpr c4
    clear c4
    by_cases c5 : 40 < (a0.f2.length : Int)
    case pos =>
     replace H := zpos c5 H
     replace c5 := eq_true c5
     obtain rfl := zsome H
     go_wp2
     go_ret
     exact HS.pk
    replace H := zneg c5 H
    replace c5 := eq_false c5
    by_cases c6 : 6 ≤ a1
    case pos =>
     replace H := zpos c6 H
     replace c6 := eq_true c6
     obtain rfl := zsome H
     go_wp2
     go_ret
     exact HS.pk
    replace H := zneg c6 H
    replace c6 := eq_false c6
    go_wp2
    go_loopg [5] k (fun kq v_5 w' => ∃ (x10 : Int), v_5 = .int .i64 x10 ∧ Aside0 (spec_l07Right.l0 kq x10 a0 a1 = some r) ∧ Aside0 (kq ≤ k) ∧ Hp noFP w w' [.box g2 [.int .i64 a0.f0, .string a0.f1, .slice Ap0 a0.f2.length cp0] 182])
    case atStart => exact ⟨_, rfl, H, ⟨Nat.le_refl _⟩, HS⟩
    case round =>
     clear HS H; (try clear F)
     obtain ⟨x10, rfl, H, HKk9, HS⟩ := hrel
     have F := HS.boxes; simp only [bxn] at F
     cases gk with
     | zero => exact absurd H.out (by simp [spec_l07Right.l0])
     | succ k9 =>
      simp only [spec_l07Right.l0] at H
      by_cases c12 : x10 < (a0.f2.length : Int)
      case neg =>
       replace H := zneg c12 H
       replace c12 := eq_false c12
       obtain rfl := zsome H
       go_wp2
       go_ret
       exact HS.pk
      replace H := zpos c12 H
      replace c12 := eq_true c12
      obtain ⟨c13, H⟩ := zgo H
      obtain ⟨c14, H⟩ := zgo H
      obtain ⟨ad15, B15_2, d15_2, rfl, e15_0, e15_1, e15_2, m15_2, y15_2⟩ := at_T182 gp0 x10 (of_eq_true c13) (of_eq_true c14)
      have e15_0_15 := (HS.keepc e15_0)
      have e15_1_15 := (HS.keepc e15_1)
      have e15_2_15 := (HS.keepc e15_2)
      replace H := zbind H; obtain ⟨t16, ht16, H⟩ := H
      go_upto_if 45 with (first | ((with_reducible refine gate_dst (N := 44) rfl ?_); refine ev_cl HS (IH (by have := HK0.out; have := HKk9.out; omega) ht16.out (HS.ro y15_2) m15_2) Tryz.func222 ?_; clear HS; (try clear F); intro wt16 HS F))
      by_cases c18 : t16 = true
      case neg =>
       replace H := zneg c18 H
       replace c18 := eq_false_of_ne_true c18
       subst c18
       (try simp only [dcn, if_true, Bool.false_eq_true, if_false])
       obtain rfl := zsome H
       go_wp2
       go_ret
       exact HS.pk
      replace H := zpos c18 H
      subst c18
      (try simp only [dcn, if_true, Bool.false_eq_true, if_false])
      go_wp2
      go_roundg k9
      case measure => have := HK0.out; have := HKk9.out; omega
      case rel => exact ⟨_, rfl, H, ⟨by have := HK0.out; have := HKk9.out; omega⟩, HS.pick [0] (by decide) (by rfl)⟩
theorem spec_l07Right.calls {k : Nat} {a0 : S182} {a1 : Int} {Ap0 : Option Addr} {np0 cp0 : Nat} {r : Bool} {w : World} (h : spec_l07Right.f k a0 a1 = some r) (gp0 : k182.C w Ap0 np0 a0.f2) (lp0 : np0 ≤ cp0) :
    Calls Tryz.prog 222 #[.agg #[.int .i64 a0.f0, .string a0.f1, .slice Ap0 np0 cp0], .int .i64 a1] w (fun e w' => e = .returned (.bool r) ∧ Hp noFP w w' []) := spec_l07Right.calls_ k (Nat.le_refl k) h gp0 lp0
/-! ### spec_ItemOk: function 190 -/
def spec_ItemOk.f (k : Nat) (a0 : S182) : Option (Bool) := ((spec_l07Right.f k a0 0).bind fun t3 => (some t3))
set_option maxHeartbeats 16000000 in
theorem spec_ItemOk.calls {k : Nat} {a0 : S182} {Ap0 : Option Addr} {np0 cp0 : Nat} {r : Bool} {w : World} (h : spec_ItemOk.f k a0 = some r) (gp0 : k182.C w Ap0 np0 a0.f2) (lp0 : np0 ≤ cp0) :
    Calls Tryz.prog 190 #[.agg #[.int .i64 a0.f0, .string a0.f1, .slice Ap0 np0 cp0]] w (fun e w' => e = .returned (.bool r) ∧ Hp noFP w w' []) := by
 obtain rfl := C_len gp0
 have HS := Hp.start w
 have H := Aside0.mk h
 clear h
 unfold spec_ItemOk.f at H
 go_enter Tryz.func190, Tryz.ntmps190
 replace H := zbind H; obtain ⟨t3, ht3, H⟩ := H
 obtain rfl := zsome H
 go_wp2_with (first | ((with_reducible refine gate_dst (N := 1) rfl ?_); refine ev_bx HS ?_; clear HS; (try clear F); intro g1 w1 HS F) | ((with_reducible refine gate_dst (N := 4) rfl ?_); refine ev_cl HS (spec_l07Right.calls ht3.out (HS.ro gp0) lp0) Tryz.func222 ?_; clear HS; (try clear F); intro wt3 HS F))
 go_ret
 exact HS.pk
/-! ### spec_l07Length: function 223 -/
def spec_l07Length.l0 : Nat → Int → ByteArray → Option (ByteArray)
  | 0, _, _ => none
  | k + 1, x13, x14 => (if 0 < x13 then (if (strOfNums ([((Int.tmod x13 256) % 256)] : List Int)).size + x14.size ≤ 9223372036854775807 then (spec_l07Length.l0 k (wrap64 (Int.tdiv x13 256)) ((strOfNums ([((Int.tmod x13 256) % 256)] : List Int)) ++ x14)) else none) else (if (strOfNums ([((wrap64 (128 + (x14.size : Int))) % 256)] : List Int)).size + x14.size ≤ 9223372036854775807 then (some ((strOfNums ([((wrap64 (128 + (x14.size : Int))) % 256)] : List Int)) ++ x14)) else none))
def spec_l07Length.f (k : Nat) (a0 : Int) : Option (ByteArray) := (if a0 < 128 then (some (strOfNums ([(a0 % 256)] : List Int))) else (spec_l07Length.l0 k a0 (⟨#[]⟩ : ByteArray)))
set_option maxHeartbeats 16000000 in
theorem spec_l07Length.calls {k : Nat} {a0 : Int} {r : ByteArray} {w : World} (h : spec_l07Length.f k a0 = some r) :
    Calls Tryz.prog 223 #[.int .i64 a0] w (fun e w' => e = .returned (.string r) ∧ Hp noFP w w' []) := by
 have HS := Hp.start w
 have H := Aside0.mk h
 clear h
 unfold spec_l07Length.f at H
 go_enter Tryz.func223, Tryz.ntmps223
 by_cases c1 : a0 < 128
 case pos =>
  replace H := zpos c1 H
  replace c1 := eq_true c1
  obtain rfl := zsome H
  go_wp2_with (first | ((with_reducible refine gate_dst (N := 8) rfl ?_); refine ev_lit rfl (Zd.int .u8) [] ([(a0 % 256)] : List Int) ([.int .u8 (a0 % 256)] ++ []) HS (by first | (go_simp; done) | (go_simp; rfl)) rfl rfl (Nat.le_of_ble_eq_true rfl) (MadeL.cons (js1 := []) (c := [.int .u8 (a0 % 256)]) rfl (made_flat (fun _ => rfl)) MadeL.nil (by decide)) ?_; clear HS; (try clear F); intro v2 w2 HS; obtain ⟨B2, d2, rfl, m2⟩ := HS.formn 1 0 rfl rfl; (try simp only [hpn, hpm] at HS)) | ((with_reducible refine gate_dst (N := 9) rfl ?_); refine ev_val rfl (run_str rfl rfl Tryz.underlying225 Tryz.underlying5 Tryz.underlying9 (HS.rd 0 rfl)) ?_))
  go_ret
  exact HS.pk
 replace H := zneg c1 H
 replace c1 := eq_false c1
 go_wp2
 go_loopg [0, 3] k (fun kq v_0 v_3 w' => ∃ (x13 : Int) (x14 : ByteArray), v_0 = .int .i64 x13 ∧ v_3 = .string x14 ∧ Aside0 (spec_l07Length.l0 kq x13 x14 = some r) ∧ Aside0 (kq ≤ k) ∧ Hp noFP w w' [])
 case atStart => exact ⟨_, _, rfl, rfl, H, ⟨Nat.le_refl _⟩, HS⟩
 case round =>
  clear HS H; (try clear F)
  obtain ⟨x13, x14, rfl, rfl, H, HKk12, HS⟩ := hrel
  cases gk with
  | zero => exact absurd H.out (by simp [spec_l07Length.l0])
  | succ k12 =>
   simp only [spec_l07Length.l0] at H
   by_cases c16 : 0 < x13
   case neg =>
    replace H := zneg c16 H
    replace c16 := eq_false c16
    obtain ⟨c22, H⟩ := zgo H
    obtain rfl := zsome H
    go_wp2_with (first | ((with_reducible refine gate_dst (N := 25) rfl ?_); refine ev_lit rfl (Zd.int .u8) [] ([((wrap64 (128 + (x14.size : Int))) % 256)] : List Int) ([.int .u8 ((wrap64 (128 + (x14.size : Int))) % 256)] ++ []) HS (by first | (go_simp; done) | (go_simp; rfl)) rfl rfl (Nat.le_of_ble_eq_true rfl) (MadeL.cons (js1 := []) (c := [.int .u8 ((wrap64 (128 + (x14.size : Int))) % 256)]) rfl (made_flat (fun _ => rfl)) MadeL.nil (by decide)) ?_; clear HS; (try clear F); intro v20 w20 HS; obtain ⟨B20, d20, rfl, m20⟩ := HS.formn 1 0 rfl rfl; (try simp only [hpn, hpm] at HS)) | ((with_reducible refine gate_dst (N := 26) rfl ?_); refine ev_val rfl (run_str rfl rfl Tryz.underlying225 Tryz.underlying5 Tryz.underlying9 (HS.rd 0 rfl)) ?_) | ((with_reducible refine gate_dst (N := 28) rfl ?_); refine ev_val rfl (run_cat rfl rfl rfl (of_eq_true c22)) ?_))
    go_ret
    exact HS.pk
   replace H := zpos c16 H
   replace c16 := eq_true c16
   obtain ⟨c19, H⟩ := zgo H
   go_wp2_with (first | ((with_reducible refine gate_dst (N := 15) rfl ?_); refine ev_lit rfl (Zd.int .u8) [] ([((Int.tmod x13 256) % 256)] : List Int) ([.int .u8 ((Int.tmod x13 256) % 256)] ++ []) HS (by first | (go_simp; done) | (go_simp; rfl)) rfl rfl (Nat.le_of_ble_eq_true rfl) (MadeL.cons (js1 := []) (c := [.int .u8 ((Int.tmod x13 256) % 256)]) rfl (made_flat (fun _ => rfl)) MadeL.nil (by decide)) ?_; clear HS; (try clear F); intro v17 w17 HS; obtain ⟨B17, d17, rfl, m17⟩ := HS.formn 1 0 rfl rfl; (try simp only [hpn, hpm] at HS)) | ((with_reducible refine gate_dst (N := 16) rfl ?_); refine ev_val rfl (run_str rfl rfl Tryz.underlying225 Tryz.underlying5 Tryz.underlying9 (HS.rd 0 rfl)) ?_) | ((with_reducible refine gate_dst (N := 18) rfl ?_); refine ev_val rfl (run_cat rfl rfl rfl (of_eq_true c19)) ?_))
   go_roundg k12
   case measure => have := HKk12.out; omega
   case rel => exact ⟨_, _, rfl, rfl, H, ⟨by have := HKk12.out; omega⟩, HS.pick [] (by decide) (by rfl)⟩
/-! ### spec_l07Text: function 191 -/
mutual
def spec_l07Text.l0 : Nat → ByteArray → Int → S182 → Option (ByteArray)
  | 0, _, _, _ => none
  | k + 1, x11, x12, a0 => (if x12 < (a0.f2.length : Int) then (if 0 ≤ x12 then (if x12 < (a0.f2.length : Int) then ((spec_l07Text.f k (rd_T182 a0.f2 x12)).bind fun t18 => (if x11.size + t18.size ≤ 9223372036854775807 then (spec_l07Text.l0 k (x11 ++ t18) (wrap64 (x12 + 1)) a0) else none)) else none) else none) else ((spec_l07Length.f k (x11.size : Int)).bind fun t107001 => (if (strOfNums ([(a0.f0 % 256)] : List Int)).size + t107001.size ≤ 9223372036854775807 then (if ((strOfNums ([(a0.f0 % 256)] : List Int)) ++ t107001).size + x11.size ≤ 9223372036854775807 then (some (((strOfNums ([(a0.f0 % 256)] : List Int)) ++ t107001) ++ x11)) else none) else none)))
def spec_l07Text.f : Nat → S182 → Option (ByteArray)
  | 0, _ => none
  | k + 1, a0 => (if a0.f0 = 48 then (spec_l07Text.l0 k a0.f1 0 a0) else ((spec_l07Length.f k (a0.f1.size : Int)).bind fun t207001 => (if (strOfNums ([(a0.f0 % 256)] : List Int)).size + t207001.size ≤ 9223372036854775807 then (if ((strOfNums ([(a0.f0 % 256)] : List Int)) ++ t207001).size + a0.f1.size ≤ 9223372036854775807 then (some (((strOfNums ([(a0.f0 % 256)] : List Int)) ++ t207001) ++ a0.f1)) else none) else none)))
end
def spec_l07Text.T7 : Bool × List (List Nat × List Nat) := (true, [([], []), ([0], [0]), ([1], [1]), ([2], [2]), ([3], [3]), ([], []), ([5], [5]), ([6], [6]), ([4, 7], [4, 7]), ([], []), ([8, 9], [8, 9]), ([10, 7, 0, 1, 2, 3, 4, 5, 6, 7, 8, 9, 10], [10])])
theorem spec_l07Text.tT7 : rtab .any (opsOf Tryz.f191 7) = spec_l07Text.T7 := by kernel_rfl
set_option maxHeartbeats 16000000 in
theorem spec_l07Text.calls_ (K : Nat) : ∀ {k : Nat} (hK : k ≤ K) {a0 : S182} {Ap0 : Option Addr} {np0 cp0 : Nat} {r : ByteArray} {w : World} (h : spec_l07Text.f k a0 = some r) (gp0 : k182.C w Ap0 np0 a0.f2) (lp0 : np0 ≤ cp0),
    Calls Tryz.prog 191 #[.agg #[.int .i64 a0.f0, .string a0.f1, .slice Ap0 np0 cp0]] w (fun e w' => e = .returned (.string r) ∧ Hp noFP w w' []) := by
  induction K with
  | zero =>
    intro k hK a0 Ap0 np0 cp0 r w h gp0 lp0
    obtain rfl : k = 0 := by omega
    exact absurd h (by simp [spec_l07Text.f])
  | succ K IH =>
    intro k hK a0 Ap0 np0 cp0 r w h gp0 lp0
    cases k with
    | zero => exact absurd h (by simp [spec_l07Text.f])
    | succ k =>
    have HK0 : Aside0 (k ≤ K) := ⟨by omega⟩
    clear hK
    obtain rfl := C_len gp0
    have HS := Hp.start w
    have H := Aside0.mk h
    clear h
    simp only [spec_l07Text.f] at H
    go_enter Tryz.func191, Tryz.ntmps191
    go_upto_if 9 with (first | ((with_reducible refine gate_dst (N := 1) rfl ?_); refine ev_bx HS ?_; clear HS; (try clear F); intro g1 w1 HS F))
    by_cases c3 : a0.f0 = 48
    case neg =>
     replace H := zneg c3 H
     have c3a := beq_eq_false_iff_ne.mpr c3
     have c3b := bne_iff_ne.mpr c3
     clear c3
     (try simp only [c3a, c3b, dcn])
     (try go_wp2)
     replace H := zbind H; obtain ⟨t207001, ht207001, H⟩ := H
     obtain ⟨c208001, H⟩ := zgo H
     obtain ⟨c210001, H⟩ := zgo H
     refine dr_start [] HS #[false, false, false, false, false, false, false, false, false, false, false, false] (by kernel_rfl) rfl rfl spec_l07Text.tT7 (fun w25 HT HS HH => ?_)
     (try clear F)
     refine join_ 0 #[true, true, true, true, true, true, true, true, true, true, true, true] (fun (v203001 : Value) => ([(25, .pointer (some ⟨g1, 0, none⟩)), (26, .int .i64 a0.f0), (27, .int .u8 (a0.f0 % 256)), (28, v203001), (29, .string (strOfNums ([(a0.f0 % 256)] : List Int))), (30, .string a0.f1), (31, .int .i64 (a0.f1.size : Int)), (32, .string t207001), (33, .string ((strOfNums ([(a0.f0 % 256)] : List Int)) ++ t207001)), (34, .string a0.f1), (35, .string (((strOfNums ([(a0.f0 % 256)] : List Int)) ++ t207001) ++ a0.f1)), (2, .string (((strOfNums ([(a0.f0 % 256)] : List Int)) ++ t207001) ++ a0.f1))] : List (Tmp × Value))) (fun (v203001 : Value) w' => Hp noFP w w' [.box g1 [.int .i64 a0.f0, .string a0.f1, .slice Ap0 a0.f2.length cp0] 182, .own (Zd.slice 5 (Zd.int .u8)) ([(a0.f0 % 256)] : List Int) [v203001]]) ?_ ?_
     rotate_left
     · intro hJ
       refine drq_of [(0, some 25), (1, some 26), (2, some 27), (5, some 30), (6, some 31), (9, some 34)] ?_
       repeat (first | refine drp HT ?_ | refine drt HT HH ?_)
       refine drq_end ?_
       refine dr_any [3, 7] HT (by kernel_rfl) (by decide) (AllReadyL.cons rfl (by decide) (fun K hK => ?_) (AllReadyL.cons rfl (by decide) (fun K hK => ?_) AllReadyL.nil))
       · refine if_wp (by rfl) ?_; refine wp_lit (Zd.int .u8) [] ([(a0.f0 % 256)] : List Int) ([.int .u8 (a0.f0 % 256)] ++ []) HS (by first | (go_simp; done) | (go_simp; rfl)) rfl rfl (Nat.le_of_ble_eq_true rfl) (MadeL.cons (js1 := []) (c := [.int .u8 (a0.f0 % 256)]) rfl (made_flat (fun _ => rfl)) MadeL.nil (by decide)) ?_; clear HS; (try clear F); intro v203001 w203001 HS; obtain ⟨B203001, d203001, rfl, m203001⟩ := HS.formn 1 1 rfl rfl
         (try simp only [hpn, hpm] at HS)
         have F := HS.boxes; simp only [bxn] at F
         refine nrm 28 hK ⟨_, HS⟩ (fun HH => ?_); clear hK K
         refine dr_any [4, 7] HT (by kernel_rfl) (by decide) (AllReadyL.cons rfl (by decide) (fun K hK => ?_) (AllReadyL.cons rfl (by decide) (fun K hK => ?_) AllReadyL.nil))
         · refine if_wp (by rfl) ?_; refine wp_run (run_str rfl rfl Tryz.underlying225 Tryz.underlying5 Tryz.underlying9 (HS.rd 1 rfl)) ?_
           (try simp only [hpn, hpm] at HS)
           have F := HS.boxes; simp only [bxn] at F
           refine nrm 29 hK ⟨_, HS⟩ (fun HH => ?_); clear hK K
           refine dr1 7 HT fun K hK => ?_
           refine go_cl HS (spec_l07Length.calls ht207001.out) Tryz.func223 ?_; clear HS; (try clear F); intro wt207001 HS F
           refine nrm 32 hK ⟨_, HS⟩ (fun HH => ?_); clear hK K
           refine dr_pure 8 (some 33) HT (v := .string ((strOfNums ([(a0.f0 % 256)] : List Int)) ++ t207001)) (a' := ?_) rfl rfl (by kernel_rfl) (fun _ _ _ h => h) (.inl ⟨by rfl, fun w' => (run_cat rfl rfl rfl (of_eq_true c208001))⟩) ?_ ?_
           rotate_left
           · simp only [Act.put, ptn]; rfl
           refine dr_pure 10 (some 35) HT (v := .string (((strOfNums ([(a0.f0 % 256)] : List Int)) ++ t207001) ++ a0.f1)) (a' := ?_) rfl rfl (by kernel_rfl) (fun _ _ _ h => h) (.inl ⟨by rfl, fun w' => (run_cat rfl rfl rfl (of_eq_true c210001))⟩) ?_ ?_
           rotate_left
           · simp only [Act.put, ptn]; rfl
           refine drq_of [(11, some 2)] ?_
           repeat (refine drp HT ?_)
           refine drq_end ?_
           refine norm_ ?_ (hJ (.slice B203001 1 d203001) _ (HS.arr [some 0, some 1] (by decide)))
           simp only [putAll, Act.put, ptn]
           (try rfl)
         · refine go_cl HS (spec_l07Length.calls ht207001.out) Tryz.func223 ?_; clear HS; (try clear F); intro wt207001 HS F
           refine nrm 32 hK ⟨_, HS⟩ (fun HH => ?_); clear hK K
           refine dr1 4 HT fun K hK => ?_
           refine if_wp (by rfl) ?_; refine wp_run (run_str rfl rfl Tryz.underlying225 Tryz.underlying5 Tryz.underlying9 (HS.rd 1 rfl)) ?_
           (try simp only [hpn, hpm] at HS)
           have F := HS.boxes; simp only [bxn] at F
           refine nrm 29 hK ⟨_, HS⟩ (fun HH => ?_); clear hK K
           refine dr_pure 8 (some 33) HT (v := .string ((strOfNums ([(a0.f0 % 256)] : List Int)) ++ t207001)) (a' := ?_) rfl rfl (by kernel_rfl) (fun _ _ _ h => h) (.inl ⟨by rfl, fun w' => (run_cat rfl rfl rfl (of_eq_true c208001))⟩) ?_ ?_
           rotate_left
           · simp only [Act.put, ptn]; rfl
           refine dr_pure 10 (some 35) HT (v := .string (((strOfNums ([(a0.f0 % 256)] : List Int)) ++ t207001) ++ a0.f1)) (a' := ?_) rfl rfl (by kernel_rfl) (fun _ _ _ h => h) (.inl ⟨by rfl, fun w' => (run_cat rfl rfl rfl (of_eq_true c210001))⟩) ?_ ?_
           rotate_left
           · simp only [Act.put, ptn]; rfl
           refine drq_of [(11, some 2)] ?_
           repeat (refine drp HT ?_)
           refine drq_end ?_
           refine norm_ ?_ (hJ (.slice B203001 1 d203001) _ (HS.arr [some 0, some 1] (by decide)))
           simp only [putAll, Act.put, ptn]
           (try rfl)
       · refine go_cl HS (spec_l07Length.calls ht207001.out) Tryz.func223 ?_; clear HS; (try clear F); intro wt207001 HS F
         refine nrm 32 hK ⟨_, HS⟩ (fun HH => ?_); clear hK K
         refine dr1 3 HT fun K hK => ?_
         refine if_wp (by rfl) ?_; refine wp_lit (Zd.int .u8) [] ([(a0.f0 % 256)] : List Int) ([.int .u8 (a0.f0 % 256)] ++ []) HS (by first | (go_simp; done) | (go_simp; rfl)) rfl rfl (Nat.le_of_ble_eq_true rfl) (MadeL.cons (js1 := []) (c := [.int .u8 (a0.f0 % 256)]) rfl (made_flat (fun _ => rfl)) MadeL.nil (by decide)) ?_; clear HS; (try clear F); intro v203001 w203001 HS; obtain ⟨B203001, d203001, rfl, m203001⟩ := HS.formn 1 1 rfl rfl
         (try simp only [hpn, hpm] at HS)
         have F := HS.boxes; simp only [bxn] at F
         refine nrm 28 hK ⟨_, HS⟩ (fun HH => ?_); clear hK K
         refine dr1 4 HT fun K hK => ?_
         refine if_wp (by rfl) ?_; refine wp_run (run_str rfl rfl Tryz.underlying225 Tryz.underlying5 Tryz.underlying9 (HS.rd 1 rfl)) ?_
         (try simp only [hpn, hpm] at HS)
         have F := HS.boxes; simp only [bxn] at F
         refine nrm 29 hK ⟨_, HS⟩ (fun HH => ?_); clear hK K
         refine dr_pure 8 (some 33) HT (v := .string ((strOfNums ([(a0.f0 % 256)] : List Int)) ++ t207001)) (a' := ?_) rfl rfl (by kernel_rfl) (fun _ _ _ h => h) (.inl ⟨by rfl, fun w' => (run_cat rfl rfl rfl (of_eq_true c208001))⟩) ?_ ?_
         rotate_left
         · simp only [Act.put, ptn]; rfl
         refine dr_pure 10 (some 35) HT (v := .string (((strOfNums ([(a0.f0 % 256)] : List Int)) ++ t207001) ++ a0.f1)) (a' := ?_) rfl rfl (by kernel_rfl) (fun _ _ _ h => h) (.inl ⟨by rfl, fun w' => (run_cat rfl rfl rfl (of_eq_true c210001))⟩) ?_ ?_
         rotate_left
         · simp only [Act.put, ptn]; rfl
         refine drq_of [(11, some 2)] ?_
         repeat (refine drp HT ?_)
         refine drq_end ?_
         refine norm_ ?_ (hJ (.slice B203001 1 d203001) _ (HS.arr [some 0, some 1] (by decide)))
         simp only [putAll, Act.put, ptn]
         (try rfl)
     rintro v203001 w299999 HS
     obtain ⟨B203001, d203001, rfl, m203001⟩ := HS.formn 1 1 rfl (by first | rfl | simp)
     have F := HS.boxes; simp only [bxn] at F
     refine norm_ (a' := ?_) ?_ ?_
     rotate_left
     · simp only [putAll, Act.put, ptn]; rfl
     refine done_ (done_of HT.out (by kernel_rfl)) ?_
     obtain rfl := zsome H
     go_wp2
     go_ret
     exact HS.pk
    replace H := zpos c3 H
    have c3a := beq_iff_eq.mpr c3
    have c3b := bne_eq_false_iff_eq.mpr c3
    clear c3
    (try simp only [c3a, c3b, dcn])
    go_wp2
    go_loopg [3, 4] k (fun kq v_3 v_4 w' => ∃ (x11 : ByteArray) (x12 : Int), v_3 = .string x11 ∧ v_4 = .int .i64 x12 ∧ Aside0 (spec_l07Text.l0 kq x11 x12 a0 = some r) ∧ Aside0 (kq ≤ k) ∧ Hp noFP w w' [.box g1 [.int .i64 a0.f0, .string a0.f1, .slice Ap0 a0.f2.length cp0] 182])
    case atStart => exact ⟨_, _, rfl, rfl, H, ⟨Nat.le_refl _⟩, HS⟩
    case round =>
     clear HS H; (try clear F)
     obtain ⟨x11, x12, rfl, rfl, H, HKk10, HS⟩ := hrel
     have F := HS.boxes; simp only [bxn] at F
     cases gk with
     | zero => exact absurd H.out (by simp [spec_l07Text.l0])
     | succ k10 =>
      simp only [spec_l07Text.l0] at H
      by_cases c14 : x12 < (a0.f2.length : Int)
      case pos =>
       replace H := zpos c14 H
       replace c14 := eq_true c14
       obtain ⟨c15, H⟩ := zgo H
       obtain ⟨c16, H⟩ := zgo H
       obtain ⟨ad17, B17_2, d17_2, rfl, e17_0, e17_1, e17_2, m17_2, y17_2⟩ := at_T182 gp0 x12 (of_eq_true c15) (of_eq_true c16)
       have e17_0_17 := (HS.keepc e17_0)
       have e17_1_17 := (HS.keepc e17_1)
       have e17_2_17 := (HS.keepc e17_2)
       replace H := zbind H; obtain ⟨t18, ht18, H⟩ := H
       obtain ⟨c20, H⟩ := zgo H
       go_wp2_with (first | ((with_reducible refine gate_dst (N := 23) rfl ?_); refine ev_cl HS (IH (by have := HK0.out; have := HKk10.out; omega) ht18.out (HS.ro y17_2) m17_2) Tryz.func191 ?_; clear HS; (try clear F); intro wt18 HS F) | ((with_reducible refine gate_dst (N := 24) rfl ?_); refine ev_val rfl (run_cat rfl rfl rfl (of_eq_true c20)) ?_))
       go_roundg k10
       case measure => have := HK0.out; have := HKk10.out; omega
       case rel => exact ⟨_, _, rfl, rfl, H, ⟨by have := HK0.out; have := HKk10.out; omega⟩, HS.pick [0] (by decide) (by rfl)⟩
      replace H := zneg c14 H
      replace c14 := eq_false c14
      (try go_wp2)
      replace H := zbind H; obtain ⟨t107001, ht107001, H⟩ := H
      obtain ⟨c108001, H⟩ := zgo H
      obtain ⟨c110001, H⟩ := zgo H
      refine dr_start [] HS #[false, false, false, false, false, false, false, false, false, false, false, false] (by kernel_rfl) rfl rfl spec_l07Text.tT7 (fun w22 HT HS HH => ?_)
      (try clear F)
      refine join_ 0 #[true, true, true, true, true, true, true, true, true, true, true, true] (fun (v103001 : Value) => ([(25, .pointer (some ⟨g1, 0, none⟩)), (26, .int .i64 a0.f0), (27, .int .u8 (a0.f0 % 256)), (28, v103001), (29, .string (strOfNums ([(a0.f0 % 256)] : List Int))), (30, .string x11), (31, .int .i64 (x11.size : Int)), (32, .string t107001), (33, .string ((strOfNums ([(a0.f0 % 256)] : List Int)) ++ t107001)), (34, .string x11), (35, .string (((strOfNums ([(a0.f0 % 256)] : List Int)) ++ t107001) ++ x11)), (2, .string (((strOfNums ([(a0.f0 % 256)] : List Int)) ++ t107001) ++ x11))] : List (Tmp × Value))) (fun (v103001 : Value) w' => Hp noFP w w' [.box g1 [.int .i64 a0.f0, .string a0.f1, .slice Ap0 a0.f2.length cp0] 182, .own (Zd.slice 5 (Zd.int .u8)) ([(a0.f0 % 256)] : List Int) [v103001]]) ?_ ?_
      rotate_left
      · intro hJ
        refine drq_of [(0, some 25), (1, some 26), (2, some 27), (5, some 30), (6, some 31), (9, some 34)] ?_
        repeat (first | refine drp HT ?_ | refine drt HT HH ?_)
        refine drq_end ?_
        refine dr_any [3, 7] HT (by kernel_rfl) (by decide) (AllReadyL.cons rfl (by decide) (fun K hK => ?_) (AllReadyL.cons rfl (by decide) (fun K hK => ?_) AllReadyL.nil))
        · refine if_wp (by rfl) ?_; refine wp_lit (Zd.int .u8) [] ([(a0.f0 % 256)] : List Int) ([.int .u8 (a0.f0 % 256)] ++ []) HS (by first | (go_simp; done) | (go_simp; rfl)) rfl rfl (Nat.le_of_ble_eq_true rfl) (MadeL.cons (js1 := []) (c := [.int .u8 (a0.f0 % 256)]) rfl (made_flat (fun _ => rfl)) MadeL.nil (by decide)) ?_; clear HS; (try clear F); intro v103001 w103001 HS; obtain ⟨B103001, d103001, rfl, m103001⟩ := HS.formn 1 1 rfl rfl
          (try simp only [hpn, hpm] at HS)
          have F := HS.boxes; simp only [bxn] at F
          refine nrm 28 hK ⟨_, HS⟩ (fun HH => ?_); clear hK K
          refine dr_any [4, 7] HT (by kernel_rfl) (by decide) (AllReadyL.cons rfl (by decide) (fun K hK => ?_) (AllReadyL.cons rfl (by decide) (fun K hK => ?_) AllReadyL.nil))
          · refine if_wp (by rfl) ?_; refine wp_run (run_str rfl rfl Tryz.underlying225 Tryz.underlying5 Tryz.underlying9 (HS.rd 1 rfl)) ?_
            (try simp only [hpn, hpm] at HS)
            have F := HS.boxes; simp only [bxn] at F
            refine nrm 29 hK ⟨_, HS⟩ (fun HH => ?_); clear hK K
            refine dr1 7 HT fun K hK => ?_
            refine go_cl HS (spec_l07Length.calls ht107001.out) Tryz.func223 ?_; clear HS; (try clear F); intro wt107001 HS F
            refine nrm 32 hK ⟨_, HS⟩ (fun HH => ?_); clear hK K
            refine dr_pure 8 (some 33) HT (v := .string ((strOfNums ([(a0.f0 % 256)] : List Int)) ++ t107001)) (a' := ?_) rfl rfl (by kernel_rfl) (fun _ _ _ h => h) (.inl ⟨by rfl, fun w' => (run_cat rfl rfl rfl (of_eq_true c108001))⟩) ?_ ?_
            rotate_left
            · simp only [Act.put, ptn]; rfl
            refine dr_pure 10 (some 35) HT (v := .string (((strOfNums ([(a0.f0 % 256)] : List Int)) ++ t107001) ++ x11)) (a' := ?_) rfl rfl (by kernel_rfl) (fun _ _ _ h => h) (.inl ⟨by rfl, fun w' => (run_cat rfl rfl rfl (of_eq_true c110001))⟩) ?_ ?_
            rotate_left
            · simp only [Act.put, ptn]; rfl
            refine drq_of [(11, some 2)] ?_
            repeat (refine drp HT ?_)
            refine drq_end ?_
            refine norm_ ?_ (hJ (.slice B103001 1 d103001) _ (HS.arr [some 0, some 1] (by decide)))
            simp only [putAll, Act.put, ptn]
            (try rfl)
          · refine go_cl HS (spec_l07Length.calls ht107001.out) Tryz.func223 ?_; clear HS; (try clear F); intro wt107001 HS F
            refine nrm 32 hK ⟨_, HS⟩ (fun HH => ?_); clear hK K
            refine dr1 4 HT fun K hK => ?_
            refine if_wp (by rfl) ?_; refine wp_run (run_str rfl rfl Tryz.underlying225 Tryz.underlying5 Tryz.underlying9 (HS.rd 1 rfl)) ?_
            (try simp only [hpn, hpm] at HS)
            have F := HS.boxes; simp only [bxn] at F
            refine nrm 29 hK ⟨_, HS⟩ (fun HH => ?_); clear hK K
            refine dr_pure 8 (some 33) HT (v := .string ((strOfNums ([(a0.f0 % 256)] : List Int)) ++ t107001)) (a' := ?_) rfl rfl (by kernel_rfl) (fun _ _ _ h => h) (.inl ⟨by rfl, fun w' => (run_cat rfl rfl rfl (of_eq_true c108001))⟩) ?_ ?_
            rotate_left
            · simp only [Act.put, ptn]; rfl
            refine dr_pure 10 (some 35) HT (v := .string (((strOfNums ([(a0.f0 % 256)] : List Int)) ++ t107001) ++ x11)) (a' := ?_) rfl rfl (by kernel_rfl) (fun _ _ _ h => h) (.inl ⟨by rfl, fun w' => (run_cat rfl rfl rfl (of_eq_true c110001))⟩) ?_ ?_
            rotate_left
            · simp only [Act.put, ptn]; rfl
            refine drq_of [(11, some 2)] ?_
            repeat (refine drp HT ?_)
            refine drq_end ?_
            refine norm_ ?_ (hJ (.slice B103001 1 d103001) _ (HS.arr [some 0, some 1] (by decide)))
            simp only [putAll, Act.put, ptn]
            (try rfl)
        · refine go_cl HS (spec_l07Length.calls ht107001.out) Tryz.func223 ?_; clear HS; (try clear F); intro wt107001 HS F
          refine nrm 32 hK ⟨_, HS⟩ (fun HH => ?_); clear hK K
          refine dr1 3 HT fun K hK => ?_
          refine if_wp (by rfl) ?_; refine wp_lit (Zd.int .u8) [] ([(a0.f0 % 256)] : List Int) ([.int .u8 (a0.f0 % 256)] ++ []) HS (by first | (go_simp; done) | (go_simp; rfl)) rfl rfl (Nat.le_of_ble_eq_true rfl) (MadeL.cons (js1 := []) (c := [.int .u8 (a0.f0 % 256)]) rfl (made_flat (fun _ => rfl)) MadeL.nil (by decide)) ?_; clear HS; (try clear F); intro v103001 w103001 HS; obtain ⟨B103001, d103001, rfl, m103001⟩ := HS.formn 1 1 rfl rfl
          (try simp only [hpn, hpm] at HS)
          have F := HS.boxes; simp only [bxn] at F
          refine nrm 28 hK ⟨_, HS⟩ (fun HH => ?_); clear hK K
          refine dr1 4 HT fun K hK => ?_
          refine if_wp (by rfl) ?_; refine wp_run (run_str rfl rfl Tryz.underlying225 Tryz.underlying5 Tryz.underlying9 (HS.rd 1 rfl)) ?_
          (try simp only [hpn, hpm] at HS)
          have F := HS.boxes; simp only [bxn] at F
          refine nrm 29 hK ⟨_, HS⟩ (fun HH => ?_); clear hK K
          refine dr_pure 8 (some 33) HT (v := .string ((strOfNums ([(a0.f0 % 256)] : List Int)) ++ t107001)) (a' := ?_) rfl rfl (by kernel_rfl) (fun _ _ _ h => h) (.inl ⟨by rfl, fun w' => (run_cat rfl rfl rfl (of_eq_true c108001))⟩) ?_ ?_
          rotate_left
          · simp only [Act.put, ptn]; rfl
          refine dr_pure 10 (some 35) HT (v := .string (((strOfNums ([(a0.f0 % 256)] : List Int)) ++ t107001) ++ x11)) (a' := ?_) rfl rfl (by kernel_rfl) (fun _ _ _ h => h) (.inl ⟨by rfl, fun w' => (run_cat rfl rfl rfl (of_eq_true c110001))⟩) ?_ ?_
          rotate_left
          · simp only [Act.put, ptn]; rfl
          refine drq_of [(11, some 2)] ?_
          repeat (refine drp HT ?_)
          refine drq_end ?_
          refine norm_ ?_ (hJ (.slice B103001 1 d103001) _ (HS.arr [some 0, some 1] (by decide)))
          simp only [putAll, Act.put, ptn]
          (try rfl)
      rintro v103001 w199999 HS
      obtain ⟨B103001, d103001, rfl, m103001⟩ := HS.formn 1 1 rfl (by first | rfl | simp)
      have F := HS.boxes; simp only [bxn] at F
      refine norm_ (a' := ?_) ?_ ?_
      rotate_left
      · simp only [putAll, Act.put, ptn]; rfl
      refine done_ (done_of HT.out (by kernel_rfl)) ?_
      obtain rfl := zsome H
      go_wp2
      go_ret
      exact HS.pk
theorem spec_l07Text.calls {k : Nat} {a0 : S182} {Ap0 : Option Addr} {np0 cp0 : Nat} {r : ByteArray} {w : World} (h : spec_l07Text.f k a0 = some r) (gp0 : k182.C w Ap0 np0 a0.f2) (lp0 : np0 ≤ cp0) :
    Calls Tryz.prog 191 #[.agg #[.int .i64 a0.f0, .string a0.f1, .slice Ap0 np0 cp0]] w (fun e w' => e = .returned (.string r) ∧ Hp noFP w w' []) := spec_l07Text.calls_ k (Nat.le_refl k) h gp0 lp0
end Go.Proofs.YtacocpknielofaaGreatDoor.F
