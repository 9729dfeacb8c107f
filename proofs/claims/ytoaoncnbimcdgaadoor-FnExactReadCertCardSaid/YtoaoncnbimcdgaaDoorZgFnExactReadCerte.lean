/- Functions of the program and of the law, and that their calls do what is written here. -/
import Derived.Test.YtoaoncnbimcdgaaDoorZgFnExactReadCerta
import Derived.Test.YtoaoncnbimcdgaaDoorZgFnExactReadCertc
import Derived.Test.YtoaoncnbimcdgaaDoorZgFnExactReadCertd
namespace Go.Proofs.YtoaoncnbimcdgaaDoor.F
open Go.RowKit Go.Proofs.YtoaoncnbimcdgaaDoorW.PrintWords Go.Proofs.YtoaoncnbimcdgaaDoorW.PrintLast Go.Proofs.YtoaoncnbimcdgaaDoorW.PrintMore Go.Proofs.YtoaoncnbimcdgaaDoor.Z
attribute [local go_sem] max2_int min2_int max_two min_two max_three min_three max_four min_four
set_option linter.unusedVariables false
set_option linter.unusedSimpArgs false
set_option maxRecDepth 100000
/-! ### spec_CertOk: function 34 -/
def spec_CertOk.f (k : Nat) (a0 : S29) : Option (Bool) := ((spec_l09Num.f a0.f0).bind fun t3 => (if t3 = true then ((spec_l09Num.f a0.f3).bind fun t6 => (if t6 = true then ((spec_l09Num.f a0.f4).bind fun t9 => (if t9 = true then ((spec_NameOk.f k a0.f1).bind fun t12 => (if t12 = true then ((spec_NameOk.f k a0.f2).bind fun t15 => (if t15 = true then (if (a0.f5.size : Int) = 15 then ((spec_l01In.f a0.f7 0 99).bind fun t19 => (if t19 = true then ((spec_l01In.f a0.f8 0 7).bind fun t22 => (if t22 = true then ((spec_PoliciesOk.f k a0.f9).bind fun t25 => (if t25 = true then ((spec_NamesOk.f k a0.f10).bind fun t28 => (if t28 = true then ((spec_NamesOk.f k a0.f11).bind fun t31 => (if t31 = true then (some ((a0.f12.size : Int) == 15)) else (some false))) else (some false))) else (some false))) else (some false))) else (some false))) else (some false)) else (some false))) else (some false))) else (some false))) else (some false))) else (some false)))
set_option maxHeartbeats 16000000 in
theorem spec_CertOk.calls {k : Nat} {a0 : S29} {Ap0 : Option Addr} {np0 cp0 : Nat} {Ap1 : Option Addr} {np1 cp1 : Nat} {Ap2 : Option Addr} {np2 cp2 : Nat} {r : Bool} {w : World} (h : spec_CertOk.f k a0 = some r) (gp0 : (Kd.int .i64).C w Ap0 np0 a0.f9) (lp0 : np0 ≤ cp0) (gp1 : Kd.string.C w Ap1 np1 a0.f10) (lp1 : np1 ≤ cp1) (gp2 : Kd.string.C w Ap2 np2 a0.f11) (lp2 : np2 ≤ cp2) :
    Calls Tryd.prog 34 #[.agg #[.int .i64 a0.f0, .string a0.f1, .string a0.f2, .int .i64 a0.f3, .int .i64 a0.f4, .string a0.f5, .bool a0.f6, .int .i64 a0.f7, .int .i64 a0.f8, .slice Ap0 np0 cp0, .slice Ap1 np1 cp1, .slice Ap2 np2 cp2, .string a0.f12]] w (fun e w' => e = .returned (.bool r) ∧ Hp noFP w w' []) := by
 obtain rfl := C_len gp0
 obtain rfl := C_len gp1
 obtain rfl := C_len gp2
 have HS := Hp.start w
 have H := Aside0.mk h
 clear h
 unfold spec_CertOk.f at H
 go_enter Tryd.func34, Tryd.ntmps34
 replace H := zbind H; obtain ⟨t3, ht3, H⟩ := H
 by_cases c5 : t3 = true
 case neg =>
  replace H := zneg c5 H
  replace c5 := eq_false_of_ne_true c5
  subst c5
  obtain rfl := zsome H
  go_wp2_with (first | ((with_reducible refine gate_dst (N := 1) rfl ?_); refine ev_box rfl HS (by first | (go_simp; done) | (go_simp; rfl)) rfl ?_; clear HS; (try clear F); intro g1 w1 HS; (try simp only [hpn, hpm] at HS); have F := HS.boxes; simp only [bxn] at F) | ((with_reducible refine gate_dst (N := 5) rfl ?_); refine ev_call rfl Tryd.func68 (by kernel_rfl) rfl #[.int .i64 a0.f0] rfl (by simp only [mpn]; rfl) ?_; refine (spec_l09Num.calls ht3.out).mono ?_; rintro _ wt3 ⟨rfl, HQ⟩; refine ⟨_, rfl, ?_⟩; replace HS := HS.call HQ; clear HQ; (try clear F); (try simp only [hpn, hpm] at HS); have F := HS.boxes; simp only [bxn] at F))
  go_ret
  exact ⟨rfl, HS.pick [] (by decide) (by rfl)⟩
 replace H := zpos c5 H
 subst c5
 replace H := zbind H; obtain ⟨t6, ht6, H⟩ := H
 by_cases c8 : t6 = true
 case neg =>
  replace H := zneg c8 H
  replace c8 := eq_false_of_ne_true c8
  subst c8
  obtain rfl := zsome H
  go_wp2_with (first | ((with_reducible refine gate_dst (N := 1) rfl ?_); refine ev_box rfl HS (by first | (go_simp; done) | (go_simp; rfl)) rfl ?_; clear HS; (try clear F); intro g1 w1 HS; (try simp only [hpn, hpm] at HS); have F := HS.boxes; simp only [bxn] at F) | ((with_reducible refine gate_dst (N := 5) rfl ?_); refine ev_call rfl Tryd.func68 (by kernel_rfl) rfl #[.int .i64 a0.f0] rfl (by simp only [mpn]; rfl) ?_; refine (spec_l09Num.calls ht3.out).mono ?_; rintro _ wt3 ⟨rfl, HQ⟩; refine ⟨_, rfl, ?_⟩; replace HS := HS.call HQ; clear HQ; (try clear F); (try simp only [hpn, hpm] at HS); have F := HS.boxes; simp only [bxn] at F) | ((with_reducible refine gate_dst (N := 9) rfl ?_); refine gate_guard (by rfl) ?_; refine ev_call rfl Tryd.func68 (by kernel_rfl) rfl #[.int .i64 a0.f3] rfl (by simp only [mpn]; rfl) ?_; refine (spec_l09Num.calls ht6.out).mono ?_; rintro _ wt6 ⟨rfl, HQ⟩; refine ⟨_, rfl, ?_⟩; replace HS := HS.call HQ; clear HQ; (try clear F); (try simp only [hpn, hpm] at HS); have F := HS.boxes; simp only [bxn] at F))
  go_ret
  exact ⟨rfl, HS.pick [] (by decide) (by rfl)⟩
 replace H := zpos c8 H
 subst c8
 replace H := zbind H; obtain ⟨t9, ht9, H⟩ := H
 by_cases c11 : t9 = true
 case neg =>
  replace H := zneg c11 H
  replace c11 := eq_false_of_ne_true c11
  subst c11
  obtain rfl := zsome H
  go_wp2_with (first | ((with_reducible refine gate_dst (N := 1) rfl ?_); refine ev_box rfl HS (by first | (go_simp; done) | (go_simp; rfl)) rfl ?_; clear HS; (try clear F); intro g1 w1 HS; (try simp only [hpn, hpm] at HS); have F := HS.boxes; simp only [bxn] at F) | ((with_reducible refine gate_dst (N := 5) rfl ?_); refine ev_call rfl Tryd.func68 (by kernel_rfl) rfl #[.int .i64 a0.f0] rfl (by simp only [mpn]; rfl) ?_; refine (spec_l09Num.calls ht3.out).mono ?_; rintro _ wt3 ⟨rfl, HQ⟩; refine ⟨_, rfl, ?_⟩; replace HS := HS.call HQ; clear HQ; (try clear F); (try simp only [hpn, hpm] at HS); have F := HS.boxes; simp only [bxn] at F) | ((with_reducible refine gate_dst (N := 9) rfl ?_); refine gate_guard (by rfl) ?_; refine ev_call rfl Tryd.func68 (by kernel_rfl) rfl #[.int .i64 a0.f3] rfl (by simp only [mpn]; rfl) ?_; refine (spec_l09Num.calls ht6.out).mono ?_; rintro _ wt6 ⟨rfl, HQ⟩; refine ⟨_, rfl, ?_⟩; replace HS := HS.call HQ; clear HQ; (try clear F); (try simp only [hpn, hpm] at HS); have F := HS.boxes; simp only [bxn] at F) | ((with_reducible refine gate_dst (N := 14) rfl ?_); refine gate_guard (by rfl) ?_; refine ev_call rfl Tryd.func68 (by kernel_rfl) rfl #[.int .i64 a0.f4] rfl (by simp only [mpn]; rfl) ?_; refine (spec_l09Num.calls ht9.out).mono ?_; rintro _ wt9 ⟨rfl, HQ⟩; refine ⟨_, rfl, ?_⟩; replace HS := HS.call HQ; clear HQ; (try clear F); (try simp only [hpn, hpm] at HS); have F := HS.boxes; simp only [bxn] at F))
  go_ret
  exact ⟨rfl, HS.pick [] (by decide) (by rfl)⟩
 replace H := zpos c11 H
 subst c11
 replace H := zbind H; obtain ⟨t12, ht12, H⟩ := H
 by_cases c14 : t12 = true
 case neg =>
  replace H := zneg c14 H
  replace c14 := eq_false_of_ne_true c14
  subst c14
  obtain rfl := zsome H
  go_wp2_with (first | ((with_reducible refine gate_dst (N := 1) rfl ?_); refine ev_box rfl HS (by first | (go_simp; done) | (go_simp; rfl)) rfl ?_; clear HS; (try clear F); intro g1 w1 HS; (try simp only [hpn, hpm] at HS); have F := HS.boxes; simp only [bxn] at F) | ((with_reducible refine gate_dst (N := 5) rfl ?_); refine ev_call rfl Tryd.func68 (by kernel_rfl) rfl #[.int .i64 a0.f0] rfl (by simp only [mpn]; rfl) ?_; refine (spec_l09Num.calls ht3.out).mono ?_; rintro _ wt3 ⟨rfl, HQ⟩; refine ⟨_, rfl, ?_⟩; replace HS := HS.call HQ; clear HQ; (try clear F); (try simp only [hpn, hpm] at HS); have F := HS.boxes; simp only [bxn] at F) | ((with_reducible refine gate_dst (N := 9) rfl ?_); refine gate_guard (by rfl) ?_; refine ev_call rfl Tryd.func68 (by kernel_rfl) rfl #[.int .i64 a0.f3] rfl (by simp only [mpn]; rfl) ?_; refine (spec_l09Num.calls ht6.out).mono ?_; rintro _ wt6 ⟨rfl, HQ⟩; refine ⟨_, rfl, ?_⟩; replace HS := HS.call HQ; clear HQ; (try clear F); (try simp only [hpn, hpm] at HS); have F := HS.boxes; simp only [bxn] at F) | ((with_reducible refine gate_dst (N := 14) rfl ?_); refine gate_guard (by rfl) ?_; refine ev_call rfl Tryd.func68 (by kernel_rfl) rfl #[.int .i64 a0.f4] rfl (by simp only [mpn]; rfl) ?_; refine (spec_l09Num.calls ht9.out).mono ?_; rintro _ wt9 ⟨rfl, HQ⟩; refine ⟨_, rfl, ?_⟩; replace HS := HS.call HQ; clear HQ; (try clear F); (try simp only [hpn, hpm] at HS); have F := HS.boxes; simp only [bxn] at F) | ((with_reducible refine gate_dst (N := 19) rfl ?_); refine gate_guard (by rfl) ?_; refine ev_call rfl Tryd.func69 (by kernel_rfl) rfl #[.string a0.f1] rfl (by simp only [mpn]; rfl) ?_; refine (spec_NameOk.calls ht12.out).mono ?_; rintro _ wt12 ⟨rfl, HQ⟩; refine ⟨_, rfl, ?_⟩; replace HS := HS.call HQ; clear HQ; (try clear F); (try simp only [hpn, hpm] at HS); have F := HS.boxes; simp only [bxn] at F))
  go_ret
  exact ⟨rfl, HS.pick [] (by decide) (by rfl)⟩
 replace H := zpos c14 H
 subst c14
 replace H := zbind H; obtain ⟨t15, ht15, H⟩ := H
 by_cases c17 : t15 = true
 case neg =>
  replace H := zneg c17 H
  replace c17 := eq_false_of_ne_true c17
  subst c17
  obtain rfl := zsome H
  go_wp2_with (first | ((with_reducible refine gate_dst (N := 1) rfl ?_); refine ev_box rfl HS (by first | (go_simp; done) | (go_simp; rfl)) rfl ?_; clear HS; (try clear F); intro g1 w1 HS; (try simp only [hpn, hpm] at HS); have F := HS.boxes; simp only [bxn] at F) | ((with_reducible refine gate_dst (N := 5) rfl ?_); refine ev_call rfl Tryd.func68 (by kernel_rfl) rfl #[.int .i64 a0.f0] rfl (by simp only [mpn]; rfl) ?_; refine (spec_l09Num.calls ht3.out).mono ?_; rintro _ wt3 ⟨rfl, HQ⟩; refine ⟨_, rfl, ?_⟩; replace HS := HS.call HQ; clear HQ; (try clear F); (try simp only [hpn, hpm] at HS); have F := HS.boxes; simp only [bxn] at F) | ((with_reducible refine gate_dst (N := 9) rfl ?_); refine gate_guard (by rfl) ?_; refine ev_call rfl Tryd.func68 (by kernel_rfl) rfl #[.int .i64 a0.f3] rfl (by simp only [mpn]; rfl) ?_; refine (spec_l09Num.calls ht6.out).mono ?_; rintro _ wt6 ⟨rfl, HQ⟩; refine ⟨_, rfl, ?_⟩; replace HS := HS.call HQ; clear HQ; (try clear F); (try simp only [hpn, hpm] at HS); have F := HS.boxes; simp only [bxn] at F) | ((with_reducible refine gate_dst (N := 14) rfl ?_); refine gate_guard (by rfl) ?_; refine ev_call rfl Tryd.func68 (by kernel_rfl) rfl #[.int .i64 a0.f4] rfl (by simp only [mpn]; rfl) ?_; refine (spec_l09Num.calls ht9.out).mono ?_; rintro _ wt9 ⟨rfl, HQ⟩; refine ⟨_, rfl, ?_⟩; replace HS := HS.call HQ; clear HQ; (try clear F); (try simp only [hpn, hpm] at HS); have F := HS.boxes; simp only [bxn] at F) | ((with_reducible refine gate_dst (N := 19) rfl ?_); refine gate_guard (by rfl) ?_; refine ev_call rfl Tryd.func69 (by kernel_rfl) rfl #[.string a0.f1] rfl (by simp only [mpn]; rfl) ?_; refine (spec_NameOk.calls ht12.out).mono ?_; rintro _ wt12 ⟨rfl, HQ⟩; refine ⟨_, rfl, ?_⟩; replace HS := HS.call HQ; clear HQ; (try clear F); (try simp only [hpn, hpm] at HS); have F := HS.boxes; simp only [bxn] at F) | ((with_reducible refine gate_dst (N := 24) rfl ?_); refine gate_guard (by rfl) ?_; refine ev_call rfl Tryd.func69 (by kernel_rfl) rfl #[.string a0.f2] rfl (by simp only [mpn]; rfl) ?_; refine (spec_NameOk.calls ht15.out).mono ?_; rintro _ wt15 ⟨rfl, HQ⟩; refine ⟨_, rfl, ?_⟩; replace HS := HS.call HQ; clear HQ; (try clear F); (try simp only [hpn, hpm] at HS); have F := HS.boxes; simp only [bxn] at F))
  go_ret
  exact ⟨rfl, HS.pick [] (by decide) (by rfl)⟩
 replace H := zpos c17 H
 subst c17
 by_cases c18 : (a0.f5.size : Int) = 15
 case neg =>
  replace H := zneg c18 H
  have c18a := beq_eq_false_iff_ne.mpr c18
  have c18b := bne_iff_ne.mpr c18
  clear c18
  obtain rfl := zsome H
  go_wp2_with (first | ((with_reducible refine gate_dst (N := 1) rfl ?_); refine ev_box rfl HS (by first | (go_simp; done) | (go_simp; rfl)) rfl ?_; clear HS; (try clear F); intro g1 w1 HS; (try simp only [hpn, hpm] at HS); have F := HS.boxes; simp only [bxn] at F) | ((with_reducible refine gate_dst (N := 5) rfl ?_); refine ev_call rfl Tryd.func68 (by kernel_rfl) rfl #[.int .i64 a0.f0] rfl (by simp only [mpn]; rfl) ?_; refine (spec_l09Num.calls ht3.out).mono ?_; rintro _ wt3 ⟨rfl, HQ⟩; refine ⟨_, rfl, ?_⟩; replace HS := HS.call HQ; clear HQ; (try clear F); (try simp only [hpn, hpm] at HS); have F := HS.boxes; simp only [bxn] at F) | ((with_reducible refine gate_dst (N := 9) rfl ?_); refine gate_guard (by rfl) ?_; refine ev_call rfl Tryd.func68 (by kernel_rfl) rfl #[.int .i64 a0.f3] rfl (by simp only [mpn]; rfl) ?_; refine (spec_l09Num.calls ht6.out).mono ?_; rintro _ wt6 ⟨rfl, HQ⟩; refine ⟨_, rfl, ?_⟩; replace HS := HS.call HQ; clear HQ; (try clear F); (try simp only [hpn, hpm] at HS); have F := HS.boxes; simp only [bxn] at F) | ((with_reducible refine gate_dst (N := 14) rfl ?_); refine gate_guard (by rfl) ?_; refine ev_call rfl Tryd.func68 (by kernel_rfl) rfl #[.int .i64 a0.f4] rfl (by simp only [mpn]; rfl) ?_; refine (spec_l09Num.calls ht9.out).mono ?_; rintro _ wt9 ⟨rfl, HQ⟩; refine ⟨_, rfl, ?_⟩; replace HS := HS.call HQ; clear HQ; (try clear F); (try simp only [hpn, hpm] at HS); have F := HS.boxes; simp only [bxn] at F) | ((with_reducible refine gate_dst (N := 19) rfl ?_); refine gate_guard (by rfl) ?_; refine ev_call rfl Tryd.func69 (by kernel_rfl) rfl #[.string a0.f1] rfl (by simp only [mpn]; rfl) ?_; refine (spec_NameOk.calls ht12.out).mono ?_; rintro _ wt12 ⟨rfl, HQ⟩; refine ⟨_, rfl, ?_⟩; replace HS := HS.call HQ; clear HQ; (try clear F); (try simp only [hpn, hpm] at HS); have F := HS.boxes; simp only [bxn] at F) | ((with_reducible refine gate_dst (N := 24) rfl ?_); refine gate_guard (by rfl) ?_; refine ev_call rfl Tryd.func69 (by kernel_rfl) rfl #[.string a0.f2] rfl (by simp only [mpn]; rfl) ?_; refine (spec_NameOk.calls ht15.out).mono ?_; rintro _ wt15 ⟨rfl, HQ⟩; refine ⟨_, rfl, ?_⟩; replace HS := HS.call HQ; clear HQ; (try clear F); (try simp only [hpn, hpm] at HS); have F := HS.boxes; simp only [bxn] at F))
  go_ret
  exact ⟨rfl, HS.pick [] (by decide) (by rfl)⟩
 replace H := zpos c18 H
 have c18a := beq_iff_eq.mpr c18
 have c18b := bne_eq_false_iff_eq.mpr c18
 clear c18
 replace H := zbind H; obtain ⟨t19, ht19, H⟩ := H
 by_cases c21 : t19 = true
 case neg =>
  replace H := zneg c21 H
  replace c21 := eq_false_of_ne_true c21
  subst c21
  obtain rfl := zsome H
  go_wp2_with (first | ((with_reducible refine gate_dst (N := 1) rfl ?_); refine ev_box rfl HS (by first | (go_simp; done) | (go_simp; rfl)) rfl ?_; clear HS; (try clear F); intro g1 w1 HS; (try simp only [hpn, hpm] at HS); have F := HS.boxes; simp only [bxn] at F) | ((with_reducible refine gate_dst (N := 5) rfl ?_); refine ev_call rfl Tryd.func68 (by kernel_rfl) rfl #[.int .i64 a0.f0] rfl (by simp only [mpn]; rfl) ?_; refine (spec_l09Num.calls ht3.out).mono ?_; rintro _ wt3 ⟨rfl, HQ⟩; refine ⟨_, rfl, ?_⟩; replace HS := HS.call HQ; clear HQ; (try clear F); (try simp only [hpn, hpm] at HS); have F := HS.boxes; simp only [bxn] at F) | ((with_reducible refine gate_dst (N := 9) rfl ?_); refine gate_guard (by rfl) ?_; refine ev_call rfl Tryd.func68 (by kernel_rfl) rfl #[.int .i64 a0.f3] rfl (by simp only [mpn]; rfl) ?_; refine (spec_l09Num.calls ht6.out).mono ?_; rintro _ wt6 ⟨rfl, HQ⟩; refine ⟨_, rfl, ?_⟩; replace HS := HS.call HQ; clear HQ; (try clear F); (try simp only [hpn, hpm] at HS); have F := HS.boxes; simp only [bxn] at F) | ((with_reducible refine gate_dst (N := 14) rfl ?_); refine gate_guard (by rfl) ?_; refine ev_call rfl Tryd.func68 (by kernel_rfl) rfl #[.int .i64 a0.f4] rfl (by simp only [mpn]; rfl) ?_; refine (spec_l09Num.calls ht9.out).mono ?_; rintro _ wt9 ⟨rfl, HQ⟩; refine ⟨_, rfl, ?_⟩; replace HS := HS.call HQ; clear HQ; (try clear F); (try simp only [hpn, hpm] at HS); have F := HS.boxes; simp only [bxn] at F) | ((with_reducible refine gate_dst (N := 19) rfl ?_); refine gate_guard (by rfl) ?_; refine ev_call rfl Tryd.func69 (by kernel_rfl) rfl #[.string a0.f1] rfl (by simp only [mpn]; rfl) ?_; refine (spec_NameOk.calls ht12.out).mono ?_; rintro _ wt12 ⟨rfl, HQ⟩; refine ⟨_, rfl, ?_⟩; replace HS := HS.call HQ; clear HQ; (try clear F); (try simp only [hpn, hpm] at HS); have F := HS.boxes; simp only [bxn] at F) | ((with_reducible refine gate_dst (N := 24) rfl ?_); refine gate_guard (by rfl) ?_; refine ev_call rfl Tryd.func69 (by kernel_rfl) rfl #[.string a0.f2] rfl (by simp only [mpn]; rfl) ?_; refine (spec_NameOk.calls ht15.out).mono ?_; rintro _ wt15 ⟨rfl, HQ⟩; refine ⟨_, rfl, ?_⟩; replace HS := HS.call HQ; clear HQ; (try clear F); (try simp only [hpn, hpm] at HS); have F := HS.boxes; simp only [bxn] at F) | ((with_reducible refine gate_dst (N := 35) rfl ?_); refine gate_guard (by rfl) ?_; refine ev_call rfl Tryd.func70 (by kernel_rfl) rfl #[.int .i64 a0.f7, .int .i64 0, .int .i64 99] rfl (by simp only [mpn]; rfl) ?_; refine (spec_l01In.calls ht19.out).mono ?_; rintro _ wt19 ⟨rfl, HQ⟩; refine ⟨_, rfl, ?_⟩; replace HS := HS.call HQ; clear HQ; (try clear F); (try simp only [hpn, hpm] at HS); have F := HS.boxes; simp only [bxn] at F))
  go_ret
  exact ⟨rfl, HS.pick [] (by decide) (by rfl)⟩
 replace H := zpos c21 H
 subst c21
 replace H := zbind H; obtain ⟨t22, ht22, H⟩ := H
 by_cases c24 : t22 = true
 case neg =>
  replace H := zneg c24 H
  replace c24 := eq_false_of_ne_true c24
  subst c24
  obtain rfl := zsome H
  go_wp2_with (first | ((with_reducible refine gate_dst (N := 1) rfl ?_); refine ev_box rfl HS (by first | (go_simp; done) | (go_simp; rfl)) rfl ?_; clear HS; (try clear F); intro g1 w1 HS; (try simp only [hpn, hpm] at HS); have F := HS.boxes; simp only [bxn] at F) | ((with_reducible refine gate_dst (N := 5) rfl ?_); refine ev_call rfl Tryd.func68 (by kernel_rfl) rfl #[.int .i64 a0.f0] rfl (by simp only [mpn]; rfl) ?_; refine (spec_l09Num.calls ht3.out).mono ?_; rintro _ wt3 ⟨rfl, HQ⟩; refine ⟨_, rfl, ?_⟩; replace HS := HS.call HQ; clear HQ; (try clear F); (try simp only [hpn, hpm] at HS); have F := HS.boxes; simp only [bxn] at F) | ((with_reducible refine gate_dst (N := 9) rfl ?_); refine gate_guard (by rfl) ?_; refine ev_call rfl Tryd.func68 (by kernel_rfl) rfl #[.int .i64 a0.f3] rfl (by simp only [mpn]; rfl) ?_; refine (spec_l09Num.calls ht6.out).mono ?_; rintro _ wt6 ⟨rfl, HQ⟩; refine ⟨_, rfl, ?_⟩; replace HS := HS.call HQ; clear HQ; (try clear F); (try simp only [hpn, hpm] at HS); have F := HS.boxes; simp only [bxn] at F) | ((with_reducible refine gate_dst (N := 14) rfl ?_); refine gate_guard (by rfl) ?_; refine ev_call rfl Tryd.func68 (by kernel_rfl) rfl #[.int .i64 a0.f4] rfl (by simp only [mpn]; rfl) ?_; refine (spec_l09Num.calls ht9.out).mono ?_; rintro _ wt9 ⟨rfl, HQ⟩; refine ⟨_, rfl, ?_⟩; replace HS := HS.call HQ; clear HQ; (try clear F); (try simp only [hpn, hpm] at HS); have F := HS.boxes; simp only [bxn] at F) | ((with_reducible refine gate_dst (N := 19) rfl ?_); refine gate_guard (by rfl) ?_; refine ev_call rfl Tryd.func69 (by kernel_rfl) rfl #[.string a0.f1] rfl (by simp only [mpn]; rfl) ?_; refine (spec_NameOk.calls ht12.out).mono ?_; rintro _ wt12 ⟨rfl, HQ⟩; refine ⟨_, rfl, ?_⟩; replace HS := HS.call HQ; clear HQ; (try clear F); (try simp only [hpn, hpm] at HS); have F := HS.boxes; simp only [bxn] at F) | ((with_reducible refine gate_dst (N := 24) rfl ?_); refine gate_guard (by rfl) ?_; refine ev_call rfl Tryd.func69 (by kernel_rfl) rfl #[.string a0.f2] rfl (by simp only [mpn]; rfl) ?_; refine (spec_NameOk.calls ht15.out).mono ?_; rintro _ wt15 ⟨rfl, HQ⟩; refine ⟨_, rfl, ?_⟩; replace HS := HS.call HQ; clear HQ; (try clear F); (try simp only [hpn, hpm] at HS); have F := HS.boxes; simp only [bxn] at F) | ((with_reducible refine gate_dst (N := 35) rfl ?_); refine gate_guard (by rfl) ?_; refine ev_call rfl Tryd.func70 (by kernel_rfl) rfl #[.int .i64 a0.f7, .int .i64 0, .int .i64 99] rfl (by simp only [mpn]; rfl) ?_; refine (spec_l01In.calls ht19.out).mono ?_; rintro _ wt19 ⟨rfl, HQ⟩; refine ⟨_, rfl, ?_⟩; replace HS := HS.call HQ; clear HQ; (try clear F); (try simp only [hpn, hpm] at HS); have F := HS.boxes; simp only [bxn] at F) | ((with_reducible refine gate_dst (N := 40) rfl ?_); refine gate_guard (by rfl) ?_; refine ev_call rfl Tryd.func70 (by kernel_rfl) rfl #[.int .i64 a0.f8, .int .i64 0, .int .i64 7] rfl (by simp only [mpn]; rfl) ?_; refine (spec_l01In.calls ht22.out).mono ?_; rintro _ wt22 ⟨rfl, HQ⟩; refine ⟨_, rfl, ?_⟩; replace HS := HS.call HQ; clear HQ; (try clear F); (try simp only [hpn, hpm] at HS); have F := HS.boxes; simp only [bxn] at F))
  go_ret
  exact ⟨rfl, HS.pick [] (by decide) (by rfl)⟩
 replace H := zpos c24 H
 subst c24
 replace H := zbind H; obtain ⟨t25, ht25, H⟩ := H
 by_cases c27 : t25 = true
 case neg =>
  replace H := zneg c27 H
  replace c27 := eq_false_of_ne_true c27
  subst c27
  obtain rfl := zsome H
  go_wp2_with (first | ((with_reducible refine gate_dst (N := 1) rfl ?_); refine ev_box rfl HS (by first | (go_simp; done) | (go_simp; rfl)) rfl ?_; clear HS; (try clear F); intro g1 w1 HS; (try simp only [hpn, hpm] at HS); have F := HS.boxes; simp only [bxn] at F) | ((with_reducible refine gate_dst (N := 5) rfl ?_); refine ev_call rfl Tryd.func68 (by kernel_rfl) rfl #[.int .i64 a0.f0] rfl (by simp only [mpn]; rfl) ?_; refine (spec_l09Num.calls ht3.out).mono ?_; rintro _ wt3 ⟨rfl, HQ⟩; refine ⟨_, rfl, ?_⟩; replace HS := HS.call HQ; clear HQ; (try clear F); (try simp only [hpn, hpm] at HS); have F := HS.boxes; simp only [bxn] at F) | ((with_reducible refine gate_dst (N := 9) rfl ?_); refine gate_guard (by rfl) ?_; refine ev_call rfl Tryd.func68 (by kernel_rfl) rfl #[.int .i64 a0.f3] rfl (by simp only [mpn]; rfl) ?_; refine (spec_l09Num.calls ht6.out).mono ?_; rintro _ wt6 ⟨rfl, HQ⟩; refine ⟨_, rfl, ?_⟩; replace HS := HS.call HQ; clear HQ; (try clear F); (try simp only [hpn, hpm] at HS); have F := HS.boxes; simp only [bxn] at F) | ((with_reducible refine gate_dst (N := 14) rfl ?_); refine gate_guard (by rfl) ?_; refine ev_call rfl Tryd.func68 (by kernel_rfl) rfl #[.int .i64 a0.f4] rfl (by simp only [mpn]; rfl) ?_; refine (spec_l09Num.calls ht9.out).mono ?_; rintro _ wt9 ⟨rfl, HQ⟩; refine ⟨_, rfl, ?_⟩; replace HS := HS.call HQ; clear HQ; (try clear F); (try simp only [hpn, hpm] at HS); have F := HS.boxes; simp only [bxn] at F) | ((with_reducible refine gate_dst (N := 19) rfl ?_); refine gate_guard (by rfl) ?_; refine ev_call rfl Tryd.func69 (by kernel_rfl) rfl #[.string a0.f1] rfl (by simp only [mpn]; rfl) ?_; refine (spec_NameOk.calls ht12.out).mono ?_; rintro _ wt12 ⟨rfl, HQ⟩; refine ⟨_, rfl, ?_⟩; replace HS := HS.call HQ; clear HQ; (try clear F); (try simp only [hpn, hpm] at HS); have F := HS.boxes; simp only [bxn] at F) | ((with_reducible refine gate_dst (N := 24) rfl ?_); refine gate_guard (by rfl) ?_; refine ev_call rfl Tryd.func69 (by kernel_rfl) rfl #[.string a0.f2] rfl (by simp only [mpn]; rfl) ?_; refine (spec_NameOk.calls ht15.out).mono ?_; rintro _ wt15 ⟨rfl, HQ⟩; refine ⟨_, rfl, ?_⟩; replace HS := HS.call HQ; clear HQ; (try clear F); (try simp only [hpn, hpm] at HS); have F := HS.boxes; simp only [bxn] at F) | ((with_reducible refine gate_dst (N := 35) rfl ?_); refine gate_guard (by rfl) ?_; refine ev_call rfl Tryd.func70 (by kernel_rfl) rfl #[.int .i64 a0.f7, .int .i64 0, .int .i64 99] rfl (by simp only [mpn]; rfl) ?_; refine (spec_l01In.calls ht19.out).mono ?_; rintro _ wt19 ⟨rfl, HQ⟩; refine ⟨_, rfl, ?_⟩; replace HS := HS.call HQ; clear HQ; (try clear F); (try simp only [hpn, hpm] at HS); have F := HS.boxes; simp only [bxn] at F) | ((with_reducible refine gate_dst (N := 40) rfl ?_); refine gate_guard (by rfl) ?_; refine ev_call rfl Tryd.func70 (by kernel_rfl) rfl #[.int .i64 a0.f8, .int .i64 0, .int .i64 7] rfl (by simp only [mpn]; rfl) ?_; refine (spec_l01In.calls ht22.out).mono ?_; rintro _ wt22 ⟨rfl, HQ⟩; refine ⟨_, rfl, ?_⟩; replace HS := HS.call HQ; clear HQ; (try clear F); (try simp only [hpn, hpm] at HS); have F := HS.boxes; simp only [bxn] at F) | ((with_reducible refine gate_dst (N := 45) rfl ?_); refine gate_guard (by rfl) ?_; refine ev_call rfl Tryd.func71 (by kernel_rfl) rfl #[.slice Ap0 a0.f9.length cp0] rfl (by simp only [mpn]; rfl) ?_; refine (spec_PoliciesOk.calls ht25.out (HS.ro gp0) lp0).mono ?_; rintro _ wt25 ⟨rfl, HQ⟩; refine ⟨_, rfl, ?_⟩; replace HS := HS.call HQ; clear HQ; (try clear F); (try simp only [hpn, hpm] at HS); have F := HS.boxes; simp only [bxn] at F))
  go_ret
  exact ⟨rfl, HS.pick [] (by decide) (by rfl)⟩
 replace H := zpos c27 H
 subst c27
 replace H := zbind H; obtain ⟨t28, ht28, H⟩ := H
 by_cases c30 : t28 = true
 case neg =>
  replace H := zneg c30 H
  replace c30 := eq_false_of_ne_true c30
  subst c30
  obtain rfl := zsome H
  go_wp2_with (first | ((with_reducible refine gate_dst (N := 1) rfl ?_); refine ev_box rfl HS (by first | (go_simp; done) | (go_simp; rfl)) rfl ?_; clear HS; (try clear F); intro g1 w1 HS; (try simp only [hpn, hpm] at HS); have F := HS.boxes; simp only [bxn] at F) | ((with_reducible refine gate_dst (N := 5) rfl ?_); refine ev_call rfl Tryd.func68 (by kernel_rfl) rfl #[.int .i64 a0.f0] rfl (by simp only [mpn]; rfl) ?_; refine (spec_l09Num.calls ht3.out).mono ?_; rintro _ wt3 ⟨rfl, HQ⟩; refine ⟨_, rfl, ?_⟩; replace HS := HS.call HQ; clear HQ; (try clear F); (try simp only [hpn, hpm] at HS); have F := HS.boxes; simp only [bxn] at F) | ((with_reducible refine gate_dst (N := 9) rfl ?_); refine gate_guard (by rfl) ?_; refine ev_call rfl Tryd.func68 (by kernel_rfl) rfl #[.int .i64 a0.f3] rfl (by simp only [mpn]; rfl) ?_; refine (spec_l09Num.calls ht6.out).mono ?_; rintro _ wt6 ⟨rfl, HQ⟩; refine ⟨_, rfl, ?_⟩; replace HS := HS.call HQ; clear HQ; (try clear F); (try simp only [hpn, hpm] at HS); have F := HS.boxes; simp only [bxn] at F) | ((with_reducible refine gate_dst (N := 14) rfl ?_); refine gate_guard (by rfl) ?_; refine ev_call rfl Tryd.func68 (by kernel_rfl) rfl #[.int .i64 a0.f4] rfl (by simp only [mpn]; rfl) ?_; refine (spec_l09Num.calls ht9.out).mono ?_; rintro _ wt9 ⟨rfl, HQ⟩; refine ⟨_, rfl, ?_⟩; replace HS := HS.call HQ; clear HQ; (try clear F); (try simp only [hpn, hpm] at HS); have F := HS.boxes; simp only [bxn] at F) | ((with_reducible refine gate_dst (N := 19) rfl ?_); refine gate_guard (by rfl) ?_; refine ev_call rfl Tryd.func69 (by kernel_rfl) rfl #[.string a0.f1] rfl (by simp only [mpn]; rfl) ?_; refine (spec_NameOk.calls ht12.out).mono ?_; rintro _ wt12 ⟨rfl, HQ⟩; refine ⟨_, rfl, ?_⟩; replace HS := HS.call HQ; clear HQ; (try clear F); (try simp only [hpn, hpm] at HS); have F := HS.boxes; simp only [bxn] at F) | ((with_reducible refine gate_dst (N := 24) rfl ?_); refine gate_guard (by rfl) ?_; refine ev_call rfl Tryd.func69 (by kernel_rfl) rfl #[.string a0.f2] rfl (by simp only [mpn]; rfl) ?_; refine (spec_NameOk.calls ht15.out).mono ?_; rintro _ wt15 ⟨rfl, HQ⟩; refine ⟨_, rfl, ?_⟩; replace HS := HS.call HQ; clear HQ; (try clear F); (try simp only [hpn, hpm] at HS); have F := HS.boxes; simp only [bxn] at F) | ((with_reducible refine gate_dst (N := 35) rfl ?_); refine gate_guard (by rfl) ?_; refine ev_call rfl Tryd.func70 (by kernel_rfl) rfl #[.int .i64 a0.f7, .int .i64 0, .int .i64 99] rfl (by simp only [mpn]; rfl) ?_; refine (spec_l01In.calls ht19.out).mono ?_; rintro _ wt19 ⟨rfl, HQ⟩; refine ⟨_, rfl, ?_⟩; replace HS := HS.call HQ; clear HQ; (try clear F); (try simp only [hpn, hpm] at HS); have F := HS.boxes; simp only [bxn] at F) | ((with_reducible refine gate_dst (N := 40) rfl ?_); refine gate_guard (by rfl) ?_; refine ev_call rfl Tryd.func70 (by kernel_rfl) rfl #[.int .i64 a0.f8, .int .i64 0, .int .i64 7] rfl (by simp only [mpn]; rfl) ?_; refine (spec_l01In.calls ht22.out).mono ?_; rintro _ wt22 ⟨rfl, HQ⟩; refine ⟨_, rfl, ?_⟩; replace HS := HS.call HQ; clear HQ; (try clear F); (try simp only [hpn, hpm] at HS); have F := HS.boxes; simp only [bxn] at F) | ((with_reducible refine gate_dst (N := 45) rfl ?_); refine gate_guard (by rfl) ?_; refine ev_call rfl Tryd.func71 (by kernel_rfl) rfl #[.slice Ap0 a0.f9.length cp0] rfl (by simp only [mpn]; rfl) ?_; refine (spec_PoliciesOk.calls ht25.out (HS.ro gp0) lp0).mono ?_; rintro _ wt25 ⟨rfl, HQ⟩; refine ⟨_, rfl, ?_⟩; replace HS := HS.call HQ; clear HQ; (try clear F); (try simp only [hpn, hpm] at HS); have F := HS.boxes; simp only [bxn] at F) | ((with_reducible refine gate_dst (N := 50) rfl ?_); refine gate_guard (by rfl) ?_; refine ev_call rfl Tryd.func72 (by kernel_rfl) rfl #[.slice Ap1 a0.f10.length cp1] rfl (by simp only [mpn]; rfl) ?_; refine (spec_NamesOk.calls ht28.out (HS.ro gp1) lp1).mono ?_; rintro _ wt28 ⟨rfl, HQ⟩; refine ⟨_, rfl, ?_⟩; replace HS := HS.call HQ; clear HQ; (try clear F); (try simp only [hpn, hpm] at HS); have F := HS.boxes; simp only [bxn] at F))
  go_ret
  exact ⟨rfl, HS.pick [] (by decide) (by rfl)⟩
 replace H := zpos c30 H
 subst c30
 replace H := zbind H; obtain ⟨t31, ht31, H⟩ := H
 by_cases c33 : t31 = true
 case pos =>
  replace H := zpos c33 H
  subst c33
  obtain rfl := zsome H
  go_wp2_with (first | ((with_reducible refine gate_dst (N := 1) rfl ?_); refine ev_box rfl HS (by first | (go_simp; done) | (go_simp; rfl)) rfl ?_; clear HS; (try clear F); intro g1 w1 HS; (try simp only [hpn, hpm] at HS); have F := HS.boxes; simp only [bxn] at F) | ((with_reducible refine gate_dst (N := 5) rfl ?_); refine ev_call rfl Tryd.func68 (by kernel_rfl) rfl #[.int .i64 a0.f0] rfl (by simp only [mpn]; rfl) ?_; refine (spec_l09Num.calls ht3.out).mono ?_; rintro _ wt3 ⟨rfl, HQ⟩; refine ⟨_, rfl, ?_⟩; replace HS := HS.call HQ; clear HQ; (try clear F); (try simp only [hpn, hpm] at HS); have F := HS.boxes; simp only [bxn] at F) | ((with_reducible refine gate_dst (N := 9) rfl ?_); refine gate_guard (by rfl) ?_; refine ev_call rfl Tryd.func68 (by kernel_rfl) rfl #[.int .i64 a0.f3] rfl (by simp only [mpn]; rfl) ?_; refine (spec_l09Num.calls ht6.out).mono ?_; rintro _ wt6 ⟨rfl, HQ⟩; refine ⟨_, rfl, ?_⟩; replace HS := HS.call HQ; clear HQ; (try clear F); (try simp only [hpn, hpm] at HS); have F := HS.boxes; simp only [bxn] at F) | ((with_reducible refine gate_dst (N := 14) rfl ?_); refine gate_guard (by rfl) ?_; refine ev_call rfl Tryd.func68 (by kernel_rfl) rfl #[.int .i64 a0.f4] rfl (by simp only [mpn]; rfl) ?_; refine (spec_l09Num.calls ht9.out).mono ?_; rintro _ wt9 ⟨rfl, HQ⟩; refine ⟨_, rfl, ?_⟩; replace HS := HS.call HQ; clear HQ; (try clear F); (try simp only [hpn, hpm] at HS); have F := HS.boxes; simp only [bxn] at F) | ((with_reducible refine gate_dst (N := 19) rfl ?_); refine gate_guard (by rfl) ?_; refine ev_call rfl Tryd.func69 (by kernel_rfl) rfl #[.string a0.f1] rfl (by simp only [mpn]; rfl) ?_; refine (spec_NameOk.calls ht12.out).mono ?_; rintro _ wt12 ⟨rfl, HQ⟩; refine ⟨_, rfl, ?_⟩; replace HS := HS.call HQ; clear HQ; (try clear F); (try simp only [hpn, hpm] at HS); have F := HS.boxes; simp only [bxn] at F) | ((with_reducible refine gate_dst (N := 24) rfl ?_); refine gate_guard (by rfl) ?_; refine ev_call rfl Tryd.func69 (by kernel_rfl) rfl #[.string a0.f2] rfl (by simp only [mpn]; rfl) ?_; refine (spec_NameOk.calls ht15.out).mono ?_; rintro _ wt15 ⟨rfl, HQ⟩; refine ⟨_, rfl, ?_⟩; replace HS := HS.call HQ; clear HQ; (try clear F); (try simp only [hpn, hpm] at HS); have F := HS.boxes; simp only [bxn] at F) | ((with_reducible refine gate_dst (N := 35) rfl ?_); refine gate_guard (by rfl) ?_; refine ev_call rfl Tryd.func70 (by kernel_rfl) rfl #[.int .i64 a0.f7, .int .i64 0, .int .i64 99] rfl (by simp only [mpn]; rfl) ?_; refine (spec_l01In.calls ht19.out).mono ?_; rintro _ wt19 ⟨rfl, HQ⟩; refine ⟨_, rfl, ?_⟩; replace HS := HS.call HQ; clear HQ; (try clear F); (try simp only [hpn, hpm] at HS); have F := HS.boxes; simp only [bxn] at F) | ((with_reducible refine gate_dst (N := 40) rfl ?_); refine gate_guard (by rfl) ?_; refine ev_call rfl Tryd.func70 (by kernel_rfl) rfl #[.int .i64 a0.f8, .int .i64 0, .int .i64 7] rfl (by simp only [mpn]; rfl) ?_; refine (spec_l01In.calls ht22.out).mono ?_; rintro _ wt22 ⟨rfl, HQ⟩; refine ⟨_, rfl, ?_⟩; replace HS := HS.call HQ; clear HQ; (try clear F); (try simp only [hpn, hpm] at HS); have F := HS.boxes; simp only [bxn] at F) | ((with_reducible refine gate_dst (N := 45) rfl ?_); refine gate_guard (by rfl) ?_; refine ev_call rfl Tryd.func71 (by kernel_rfl) rfl #[.slice Ap0 a0.f9.length cp0] rfl (by simp only [mpn]; rfl) ?_; refine (spec_PoliciesOk.calls ht25.out (HS.ro gp0) lp0).mono ?_; rintro _ wt25 ⟨rfl, HQ⟩; refine ⟨_, rfl, ?_⟩; replace HS := HS.call HQ; clear HQ; (try clear F); (try simp only [hpn, hpm] at HS); have F := HS.boxes; simp only [bxn] at F) | ((with_reducible refine gate_dst (N := 50) rfl ?_); refine gate_guard (by rfl) ?_; refine ev_call rfl Tryd.func72 (by kernel_rfl) rfl #[.slice Ap1 a0.f10.length cp1] rfl (by simp only [mpn]; rfl) ?_; refine (spec_NamesOk.calls ht28.out (HS.ro gp1) lp1).mono ?_; rintro _ wt28 ⟨rfl, HQ⟩; refine ⟨_, rfl, ?_⟩; replace HS := HS.call HQ; clear HQ; (try clear F); (try simp only [hpn, hpm] at HS); have F := HS.boxes; simp only [bxn] at F) | ((with_reducible refine gate_dst (N := 55) rfl ?_); refine gate_guard (by rfl) ?_; refine ev_call rfl Tryd.func72 (by kernel_rfl) rfl #[.slice Ap2 a0.f11.length cp2] rfl (by simp only [mpn]; rfl) ?_; refine (spec_NamesOk.calls ht31.out (HS.ro gp2) lp2).mono ?_; rintro _ wt31 ⟨rfl, HQ⟩; refine ⟨_, rfl, ?_⟩; replace HS := HS.call HQ; clear HQ; (try clear F); (try simp only [hpn, hpm] at HS); have F := HS.boxes; simp only [bxn] at F))
  go_ret
  exact ⟨rfl, HS.pick [] (by decide) (by rfl)⟩
 replace H := zneg c33 H
 replace c33 := eq_false_of_ne_true c33
 subst c33
 obtain rfl := zsome H
 go_wp2_with (first | ((with_reducible refine gate_dst (N := 1) rfl ?_); refine ev_box rfl HS (by first | (go_simp; done) | (go_simp; rfl)) rfl ?_; clear HS; (try clear F); intro g1 w1 HS; (try simp only [hpn, hpm] at HS); have F := HS.boxes; simp only [bxn] at F) | ((with_reducible refine gate_dst (N := 5) rfl ?_); refine ev_call rfl Tryd.func68 (by kernel_rfl) rfl #[.int .i64 a0.f0] rfl (by simp only [mpn]; rfl) ?_; refine (spec_l09Num.calls ht3.out).mono ?_; rintro _ wt3 ⟨rfl, HQ⟩; refine ⟨_, rfl, ?_⟩; replace HS := HS.call HQ; clear HQ; (try clear F); (try simp only [hpn, hpm] at HS); have F := HS.boxes; simp only [bxn] at F) | ((with_reducible refine gate_dst (N := 9) rfl ?_); refine gate_guard (by rfl) ?_; refine ev_call rfl Tryd.func68 (by kernel_rfl) rfl #[.int .i64 a0.f3] rfl (by simp only [mpn]; rfl) ?_; refine (spec_l09Num.calls ht6.out).mono ?_; rintro _ wt6 ⟨rfl, HQ⟩; refine ⟨_, rfl, ?_⟩; replace HS := HS.call HQ; clear HQ; (try clear F); (try simp only [hpn, hpm] at HS); have F := HS.boxes; simp only [bxn] at F) | ((with_reducible refine gate_dst (N := 14) rfl ?_); refine gate_guard (by rfl) ?_; refine ev_call rfl Tryd.func68 (by kernel_rfl) rfl #[.int .i64 a0.f4] rfl (by simp only [mpn]; rfl) ?_; refine (spec_l09Num.calls ht9.out).mono ?_; rintro _ wt9 ⟨rfl, HQ⟩; refine ⟨_, rfl, ?_⟩; replace HS := HS.call HQ; clear HQ; (try clear F); (try simp only [hpn, hpm] at HS); have F := HS.boxes; simp only [bxn] at F) | ((with_reducible refine gate_dst (N := 19) rfl ?_); refine gate_guard (by rfl) ?_; refine ev_call rfl Tryd.func69 (by kernel_rfl) rfl #[.string a0.f1] rfl (by simp only [mpn]; rfl) ?_; refine (spec_NameOk.calls ht12.out).mono ?_; rintro _ wt12 ⟨rfl, HQ⟩; refine ⟨_, rfl, ?_⟩; replace HS := HS.call HQ; clear HQ; (try clear F); (try simp only [hpn, hpm] at HS); have F := HS.boxes; simp only [bxn] at F) | ((with_reducible refine gate_dst (N := 24) rfl ?_); refine gate_guard (by rfl) ?_; refine ev_call rfl Tryd.func69 (by kernel_rfl) rfl #[.string a0.f2] rfl (by simp only [mpn]; rfl) ?_; refine (spec_NameOk.calls ht15.out).mono ?_; rintro _ wt15 ⟨rfl, HQ⟩; refine ⟨_, rfl, ?_⟩; replace HS := HS.call HQ; clear HQ; (try clear F); (try simp only [hpn, hpm] at HS); have F := HS.boxes; simp only [bxn] at F) | ((with_reducible refine gate_dst (N := 35) rfl ?_); refine gate_guard (by rfl) ?_; refine ev_call rfl Tryd.func70 (by kernel_rfl) rfl #[.int .i64 a0.f7, .int .i64 0, .int .i64 99] rfl (by simp only [mpn]; rfl) ?_; refine (spec_l01In.calls ht19.out).mono ?_; rintro _ wt19 ⟨rfl, HQ⟩; refine ⟨_, rfl, ?_⟩; replace HS := HS.call HQ; clear HQ; (try clear F); (try simp only [hpn, hpm] at HS); have F := HS.boxes; simp only [bxn] at F) | ((with_reducible refine gate_dst (N := 40) rfl ?_); refine gate_guard (by rfl) ?_; refine ev_call rfl Tryd.func70 (by kernel_rfl) rfl #[.int .i64 a0.f8, .int .i64 0, .int .i64 7] rfl (by simp only [mpn]; rfl) ?_; refine (spec_l01In.calls ht22.out).mono ?_; rintro _ wt22 ⟨rfl, HQ⟩; refine ⟨_, rfl, ?_⟩; replace HS := HS.call HQ; clear HQ; (try clear F); (try simp only [hpn, hpm] at HS); have F := HS.boxes; simp only [bxn] at F) | ((with_reducible refine gate_dst (N := 45) rfl ?_); refine gate_guard (by rfl) ?_; refine ev_call rfl Tryd.func71 (by kernel_rfl) rfl #[.slice Ap0 a0.f9.length cp0] rfl (by simp only [mpn]; rfl) ?_; refine (spec_PoliciesOk.calls ht25.out (HS.ro gp0) lp0).mono ?_; rintro _ wt25 ⟨rfl, HQ⟩; refine ⟨_, rfl, ?_⟩; replace HS := HS.call HQ; clear HQ; (try clear F); (try simp only [hpn, hpm] at HS); have F := HS.boxes; simp only [bxn] at F) | ((with_reducible refine gate_dst (N := 50) rfl ?_); refine gate_guard (by rfl) ?_; refine ev_call rfl Tryd.func72 (by kernel_rfl) rfl #[.slice Ap1 a0.f10.length cp1] rfl (by simp only [mpn]; rfl) ?_; refine (spec_NamesOk.calls ht28.out (HS.ro gp1) lp1).mono ?_; rintro _ wt28 ⟨rfl, HQ⟩; refine ⟨_, rfl, ?_⟩; replace HS := HS.call HQ; clear HQ; (try clear F); (try simp only [hpn, hpm] at HS); have F := HS.boxes; simp only [bxn] at F) | ((with_reducible refine gate_dst (N := 55) rfl ?_); refine gate_guard (by rfl) ?_; refine ev_call rfl Tryd.func72 (by kernel_rfl) rfl #[.slice Ap2 a0.f11.length cp2] rfl (by simp only [mpn]; rfl) ?_; refine (spec_NamesOk.calls ht31.out (HS.ro gp2) lp2).mono ?_; rintro _ wt31 ⟨rfl, HQ⟩; refine ⟨_, rfl, ?_⟩; replace HS := HS.call HQ; clear HQ; (try clear F); (try simp only [hpn, hpm] at HS); have F := HS.boxes; simp only [bxn] at F))
 go_ret
 exact ⟨rfl, HS.pick [] (by decide) (by rfl)⟩
/-! ### spec_l09Bytes: function 37 -/
def spec_l09Bytes.f (a0 : ByteArray) : Option (S65) := (some (⟨4, a0, ([] : List S65)⟩ : S65))
set_option maxHeartbeats 16000000 in
theorem spec_l09Bytes.calls {a0 : ByteArray} {r : S65} {w : World} (h : spec_l09Bytes.f a0 = some r) :
    Calls Tryd.prog 37 #[.string a0] w (fun e w' => ∃ v0_ : Value, e = .returned (.agg #[.int .i64 r.f0, .string r.f1, v0_]) ∧ Hp noFP w w' [.own (Zd.slice 65 q65) r.f2 [v0_]]) := by
 have HS := Hp.start w
 have H := Aside0.mk h
 clear h
 unfold spec_l09Bytes.f at H
 go_enter Tryd.func37, Tryd.ntmps37
 obtain rfl := zsome H
 go_wp2_with (first | ((with_reducible refine gate_dst (N := 2) rfl ?_); refine ev_box rfl HS (by first | (go_simp; done) | (go_simp; rfl)) rfl ?_; clear HS; (try clear F); intro g2 w2 HS; (try simp only [hpn, hpm] at HS); have F := HS.boxes; simp only [bxn] at F) | ((with_reducible refine gate_store (p := 2) rfl ?_); refine ev_store rfl 0 0 HS (seg := [.int .i64 4, .string a0, .slice none 0 0]) rfl rfl rfl rfl rfl rfl (by kernel_rfl) (by simp [wrt]) (by simp [Value.oneCell']) ?_; clear HS; (try clear F); intro w3 HS; (try simp only [hpn, hpm] at HS); have F := HS.boxes; simp only [bxn] at F))
 replace HS := HS.nil 65 q65
 exact bodyPost_ret (results_single rfl (.cell _ _ _ _ _ rfl (HS.boxAt (i := 0) rfl) Tryd.underlying65 rfl (by kernel_rfl) .nil)) rfl ⟨_, rfl, HS.pick [1] (by decide) (by rfl)⟩
/-! ### spec_IntItem: function 75 -/
mutual
def spec_IntItem.l0 : Nat → Int → ByteArray → Option (S65)
  | 0, _, _ => none
  | k + 1, x15, x16 => (if 0 < x15 then (if (strOfNums ([((Int.tmod x15 256) % 256)] : List Int)).size + x16.size ≤ 9223372036854775807 then (spec_IntItem.l0 k (wrap64 (Int.tdiv x15 256)) ((strOfNums ([((Int.tmod x15 256) % 256)] : List Int)) ++ x16)) else none) else (if x16.toList = ([] : List UInt8) then (if (⟨#[0]⟩ : ByteArray).size + x16.size ≤ 9223372036854775807 then (some (⟨2, ((⟨#[0]⟩ : ByteArray) ++ x16), ([] : List S65)⟩ : S65)) else none) else (if 0 < (x16.size : Int) then (if 128 ≤ (bt x16 0) then (if (⟨#[0]⟩ : ByteArray).size + x16.size ≤ 9223372036854775807 then (some (⟨2, ((⟨#[0]⟩ : ByteArray) ++ x16), ([] : List S65)⟩ : S65)) else none) else (some (⟨2, x16, ([] : List S65)⟩ : S65))) else none)))
def spec_IntItem.l1 : Nat → Int → ByteArray → Option (S65)
  | 0, _, _ => none
  | k + 1, x44, x45 => (if 0 < x44 then (if (strOfNums ([((Int.tmod x44 256) % 256)] : List Int)).size + x45.size ≤ 9223372036854775807 then (spec_IntItem.l1 k (wrap64 (Int.tdiv x44 256)) ((strOfNums ([((Int.tmod x44 256) % 256)] : List Int)) ++ x45)) else none) else (if x45.toList = ([] : List UInt8) then (if (⟨#[0]⟩ : ByteArray).size + x45.size ≤ 9223372036854775807 then (some (⟨2, ((⟨#[0]⟩ : ByteArray) ++ x45), ([] : List S65)⟩ : S65)) else none) else (if 0 < (x45.size : Int) then (if 128 ≤ (bt x45 0) then (if (⟨#[0]⟩ : ByteArray).size + x45.size ≤ 9223372036854775807 then (some (⟨2, ((⟨#[0]⟩ : ByteArray) ++ x45), ([] : List S65)⟩ : S65)) else none) else (some (⟨2, x45, ([] : List S65)⟩ : S65))) else none)))
end
def spec_IntItem.f (k : Nat) (a0 : Int) : Option (S65) := ((spec_l01In.f a0 0 1000000000).bind fun t3 => (if t3 = true then (spec_IntItem.l0 k a0 (⟨#[]⟩ : ByteArray)) else (spec_IntItem.l1 k 0 (⟨#[]⟩ : ByteArray))))
set_option maxHeartbeats 16000000 in
theorem spec_IntItem.calls {k : Nat} {a0 : Int} {r : S65} {w : World} (h : spec_IntItem.f k a0 = some r) :
    Calls Tryd.prog 75 #[.int .i64 a0] w (fun e w' => ∃ v0_ : Value, e = .returned (.agg #[.int .i64 r.f0, .string r.f1, v0_]) ∧ Hp noFP w w' [.own (Zd.slice 65 q65) r.f2 [v0_]]) := by
 have HS := Hp.start w
 have H := Aside0.mk h
 clear h
 unfold spec_IntItem.f at H
 go_enter Tryd.func75, Tryd.ntmps75
 replace H := zbind H; obtain ⟨t3, ht3, H⟩ := H
 go_upto_if 6 with (first | ((with_reducible refine gate_dst (N := 2) rfl ?_); refine ev_box rfl HS (by first | (go_simp; done) | (go_simp; rfl)) rfl ?_; clear HS; (try clear F); intro g2 w2 HS; (try simp only [hpn, hpm] at HS); have F := HS.boxes; simp only [bxn] at F) | ((with_reducible refine gate_dst (N := 5) rfl ?_); refine ev_call rfl Tryd.func70 (by kernel_rfl) rfl #[.int .i64 a0, .int .i64 0, .int .i64 1000000000] rfl (by simp only [mpn]; rfl) ?_; refine (spec_l01In.calls ht3.out).mono ?_; rintro _ wt3 ⟨rfl, HQ⟩; refine ⟨_, rfl, ?_⟩; replace HS := HS.call HQ; clear HQ; (try clear F); (try simp only [hpn, hpm] at HS); have F := HS.boxes; simp only [bxn] at F))
 by_cases c5 : t3 = true
 case pos =>
  replace H := zpos c5 H
  subst c5
  (try simp only [dcn, if_true, Bool.false_eq_true, if_false])
  go_wp2
  go_loopg [0, 3] k (fun kq v_0 v_3 w' => ∃ (x15 : Int) (x16 : ByteArray), v_0 = .int .i64 x15 ∧ v_3 = .string x16 ∧ Aside0 (spec_IntItem.l0 kq x15 x16 = some r) ∧ Aside0 (kq ≤ k) ∧ Hp noFP w w' [.box g2 [.int .i64 0, .string (⟨#[]⟩ : ByteArray), .slice none 0 0] 65])
  case atStart => exact ⟨_, _, rfl, rfl, H, ⟨Nat.le_refl _⟩, HS⟩
  case round =>
   clear HS H; (try clear F)
   obtain ⟨x15, x16, rfl, rfl, H, HKk14, HS⟩ := hrel
   have F := HS.boxes; simp only [bxn] at F
   cases gk with
   | zero => exact absurd H.out (by simp [spec_IntItem.l0])
   | succ k14 =>
    simp only [spec_IntItem.l0] at H
    by_cases c18 : 0 < x15
    case pos =>
     replace H := zpos c18 H
     replace c18 := eq_true c18
     by_cases c21 : (strOfNums ([((Int.tmod x15 256) % 256)] : List Int)).size + x16.size ≤ 9223372036854775807
     case neg => exact zno c21 H
     replace H := zpos c21 H
     replace c21 := eq_true c21
     go_wp2_with (first | ((with_reducible refine gate_dst (N := 12) rfl ?_); refine ev_lit rfl (Zd.int .u8) [] ([((Int.tmod x15 256) % 256)] : List Int) ([.int .u8 ((Int.tmod x15 256) % 256)] ++ []) HS (by first | (go_simp; done) | (go_simp; rfl)) rfl rfl (Nat.le_of_ble_eq_true rfl) (MadeL.cons (js1 := []) (c := [.int .u8 ((Int.tmod x15 256) % 256)]) rfl (made_flat (fun _ => rfl)) MadeL.nil (by decide)) ?_; clear HS; (try clear F); intro v19 w19 HS; obtain ⟨B19, d19, rfl, m19⟩ := HS.formn 1 1 rfl rfl; (try simp only [hpn, hpm] at HS); have F := HS.boxes; simp only [bxn] at F) | ((with_reducible refine gate_dst (N := 13) rfl ?_); refine ev_val rfl (run_str rfl rfl Tryd.underlying73 Tryd.underlying5 Tryd.underlying9 (HS.rd 1 rfl)) ?_) | ((with_reducible refine gate_dst (N := 15) rfl ?_); refine ev_val rfl (run_cat rfl rfl rfl (of_eq_true c21)) ?_))
     go_roundg k14
     case measure => have := HKk14.out; omega
     case rel => exact ⟨_, _, rfl, rfl, H, ⟨by have := HKk14.out; omega⟩, HS.pick [0] (by decide) (by rfl)⟩
    replace H := zneg c18 H
    replace c18 := eq_false c18
    by_cases c22 : x16.toList = ([] : List UInt8)
    case pos =>
     replace H := zpos c22 H
     have c22a := beq_iff_eq.mpr c22
     have c22b := bne_eq_false_iff_eq.mpr c22
     have c22e := List.isEmpty_iff.mpr c22
     clear c22
     by_cases c23 : (⟨#[0]⟩ : ByteArray).size + x16.size ≤ 9223372036854775807
     case neg => exact zno c23 H
     replace H := zpos c23 H
     replace c23 := eq_true c23
     obtain rfl := zsome H
     go_wp2_with (first | ((with_reducible refine gate_dst (N := 26) rfl ?_); refine ev_val rfl (run_cat rfl rfl rfl (of_eq_true c23)) ?_) | ((with_reducible refine gate_store (p := 2) rfl ?_); refine ev_store rfl 0 0 HS (seg := [.int .i64 2, .string ((⟨#[0]⟩ : ByteArray) ++ x16), .slice none 0 0]) rfl rfl rfl rfl rfl rfl (by kernel_rfl) (by simp [wrt]) (by simp [Value.oneCell']) ?_; clear HS; (try clear F); intro w24 HS; (try simp only [hpn, hpm] at HS); have F := HS.boxes; simp only [bxn] at F))
     replace HS := HS.nil 65 q65
     exact bodyPost_ret (results_single rfl (.cell _ _ _ _ _ rfl (HS.boxAt (i := 0) rfl) Tryd.underlying65 rfl (by kernel_rfl) .nil)) rfl ⟨_, rfl, HS.pick [1] (by decide) (by rfl)⟩
    replace H := zneg c22 H
    have c22a := beq_eq_false_iff_ne.mpr c22
    have c22b := bne_iff_ne.mpr c22
    have c22e := List.isEmpty_eq_false_iff.mpr c22
    clear c22
    by_cases c26 : 0 < (x16.size : Int)
    case neg => exact zno c26 H
    replace H := zpos c26 H
    replace c26 := eq_true c26
    have c26n : (0 < x16.size) = True := eq_true (by have := of_eq_true c26; omega)
    have hx27 : ∀ h : 0 < x16.size, ((x16[0]'h).toNat : Int) = bt x16 0 := bt_at x16 0
    have hz28 : 0 < x16.size := (by have := of_eq_true c26; omega)
    by_cases c29 : 128 ≤ (bt x16 0)
    case neg =>
     replace H := zneg c29 H
     replace c29 := eq_false c29
     obtain rfl := zsome H
     go_wp2_with (first | ((with_reducible refine gate_store (p := 2) rfl ?_); refine ev_store rfl 0 0 HS (seg := [.int .i64 2, .string x16, .slice none 0 0]) rfl rfl rfl rfl rfl rfl (by kernel_rfl) (by simp [wrt]) (by simp [Value.oneCell']) ?_; clear HS; (try clear F); intro w33 HS; (try simp only [hpn, hpm] at HS); have F := HS.boxes; simp only [bxn] at F))
     replace HS := HS.nil 65 q65
     exact bodyPost_ret (results_single rfl (.cell _ _ _ _ _ rfl (HS.boxAt (i := 0) rfl) Tryd.underlying65 rfl (by kernel_rfl) .nil)) rfl ⟨_, rfl, HS.pick [1] (by decide) (by rfl)⟩
    replace H := zpos c29 H
    replace c29 := eq_true c29
    by_cases c30 : (⟨#[0]⟩ : ByteArray).size + x16.size ≤ 9223372036854775807
    case neg => exact zno c30 H
    replace H := zpos c30 H
    replace c30 := eq_true c30
    obtain rfl := zsome H
    go_wp2_with (first | ((with_reducible refine gate_dst (N := 26) rfl ?_); refine ev_val rfl (run_cat rfl rfl rfl (of_eq_true c30)) ?_) | ((with_reducible refine gate_store (p := 2) rfl ?_); refine ev_store rfl 0 0 HS (seg := [.int .i64 2, .string ((⟨#[0]⟩ : ByteArray) ++ x16), .slice none 0 0]) rfl rfl rfl rfl rfl rfl (by kernel_rfl) (by simp [wrt]) (by simp [Value.oneCell']) ?_; clear HS; (try clear F); intro w31 HS; (try simp only [hpn, hpm] at HS); have F := HS.boxes; simp only [bxn] at F))
    replace HS := HS.nil 65 q65
    exact bodyPost_ret (results_single rfl (.cell _ _ _ _ _ rfl (HS.boxAt (i := 0) rfl) Tryd.underlying65 rfl (by kernel_rfl) .nil)) rfl ⟨_, rfl, HS.pick [1] (by decide) (by rfl)⟩
 replace H := zneg c5 H
 replace c5 := eq_false_of_ne_true c5
 subst c5
 (try simp only [dcn, if_true, Bool.false_eq_true, if_false])
 go_wp2
 go_loopg [0, 3] k (fun kq v_0 v_3 w' => ∃ (x44 : Int) (x45 : ByteArray), v_0 = .int .i64 x44 ∧ v_3 = .string x45 ∧ Aside0 (spec_IntItem.l1 kq x44 x45 = some r) ∧ Aside0 (kq ≤ k) ∧ Hp noFP w w' [.box g2 [.int .i64 0, .string (⟨#[]⟩ : ByteArray), .slice none 0 0] 65])
 case atStart => exact ⟨_, _, rfl, rfl, H, ⟨Nat.le_refl _⟩, HS⟩
 case round =>
  clear HS H; (try clear F)
  obtain ⟨x44, x45, rfl, rfl, H, HKk43, HS⟩ := hrel
  have F := HS.boxes; simp only [bxn] at F
  cases gk with
  | zero => exact absurd H.out (by simp [spec_IntItem.l1])
  | succ k43 =>
   simp only [spec_IntItem.l1] at H
   by_cases c47 : 0 < x44
   case pos =>
    replace H := zpos c47 H
    replace c47 := eq_true c47
    by_cases c50 : (strOfNums ([((Int.tmod x44 256) % 256)] : List Int)).size + x45.size ≤ 9223372036854775807
    case neg => exact zno c50 H
    replace H := zpos c50 H
    replace c50 := eq_true c50
    go_wp2_with (first | ((with_reducible refine gate_dst (N := 12) rfl ?_); refine ev_lit rfl (Zd.int .u8) [] ([((Int.tmod x44 256) % 256)] : List Int) ([.int .u8 ((Int.tmod x44 256) % 256)] ++ []) HS (by first | (go_simp; done) | (go_simp; rfl)) rfl rfl (Nat.le_of_ble_eq_true rfl) (MadeL.cons (js1 := []) (c := [.int .u8 ((Int.tmod x44 256) % 256)]) rfl (made_flat (fun _ => rfl)) MadeL.nil (by decide)) ?_; clear HS; (try clear F); intro v48 w48 HS; obtain ⟨B48, d48, rfl, m48⟩ := HS.formn 1 1 rfl rfl; (try simp only [hpn, hpm] at HS); have F := HS.boxes; simp only [bxn] at F) | ((with_reducible refine gate_dst (N := 13) rfl ?_); refine ev_val rfl (run_str rfl rfl Tryd.underlying73 Tryd.underlying5 Tryd.underlying9 (HS.rd 1 rfl)) ?_) | ((with_reducible refine gate_dst (N := 15) rfl ?_); refine ev_val rfl (run_cat rfl rfl rfl (of_eq_true c50)) ?_))
    go_roundg k43
    case measure => have := HKk43.out; omega
    case rel => exact ⟨_, _, rfl, rfl, H, ⟨by have := HKk43.out; omega⟩, HS.pick [0] (by decide) (by rfl)⟩
   replace H := zneg c47 H
   replace c47 := eq_false c47
   by_cases c51 : x45.toList = ([] : List UInt8)
   case pos =>
    replace H := zpos c51 H
    have c51a := beq_iff_eq.mpr c51
    have c51b := bne_eq_false_iff_eq.mpr c51
    have c51e := List.isEmpty_iff.mpr c51
    clear c51
    by_cases c52 : (⟨#[0]⟩ : ByteArray).size + x45.size ≤ 9223372036854775807
    case neg => exact zno c52 H
    replace H := zpos c52 H
    replace c52 := eq_true c52
    obtain rfl := zsome H
    go_wp2_with (first | ((with_reducible refine gate_dst (N := 26) rfl ?_); refine ev_val rfl (run_cat rfl rfl rfl (of_eq_true c52)) ?_) | ((with_reducible refine gate_store (p := 2) rfl ?_); refine ev_store rfl 0 0 HS (seg := [.int .i64 2, .string ((⟨#[0]⟩ : ByteArray) ++ x45), .slice none 0 0]) rfl rfl rfl rfl rfl rfl (by kernel_rfl) (by simp [wrt]) (by simp [Value.oneCell']) ?_; clear HS; (try clear F); intro w53 HS; (try simp only [hpn, hpm] at HS); have F := HS.boxes; simp only [bxn] at F))
    replace HS := HS.nil 65 q65
    exact bodyPost_ret (results_single rfl (.cell _ _ _ _ _ rfl (HS.boxAt (i := 0) rfl) Tryd.underlying65 rfl (by kernel_rfl) .nil)) rfl ⟨_, rfl, HS.pick [1] (by decide) (by rfl)⟩
   replace H := zneg c51 H
   have c51a := beq_eq_false_iff_ne.mpr c51
   have c51b := bne_iff_ne.mpr c51
   have c51e := List.isEmpty_eq_false_iff.mpr c51
   clear c51
   by_cases c55 : 0 < (x45.size : Int)
   case neg => exact zno c55 H
   replace H := zpos c55 H
   replace c55 := eq_true c55
   have c55n : (0 < x45.size) = True := eq_true (by have := of_eq_true c55; omega)
   have hx56 : ∀ h : 0 < x45.size, ((x45[0]'h).toNat : Int) = bt x45 0 := bt_at x45 0
   have hz57 : 0 < x45.size := (by have := of_eq_true c55; omega)
   by_cases c58 : 128 ≤ (bt x45 0)
   case neg =>
    replace H := zneg c58 H
    replace c58 := eq_false c58
    obtain rfl := zsome H
    go_wp2_with (first | ((with_reducible refine gate_store (p := 2) rfl ?_); refine ev_store rfl 0 0 HS (seg := [.int .i64 2, .string x45, .slice none 0 0]) rfl rfl rfl rfl rfl rfl (by kernel_rfl) (by simp [wrt]) (by simp [Value.oneCell']) ?_; clear HS; (try clear F); intro w62 HS; (try simp only [hpn, hpm] at HS); have F := HS.boxes; simp only [bxn] at F))
    replace HS := HS.nil 65 q65
    exact bodyPost_ret (results_single rfl (.cell _ _ _ _ _ rfl (HS.boxAt (i := 0) rfl) Tryd.underlying65 rfl (by kernel_rfl) .nil)) rfl ⟨_, rfl, HS.pick [1] (by decide) (by rfl)⟩
   replace H := zpos c58 H
   replace c58 := eq_true c58
   by_cases c59 : (⟨#[0]⟩ : ByteArray).size + x45.size ≤ 9223372036854775807
   case neg => exact zno c59 H
   replace H := zpos c59 H
   replace c59 := eq_true c59
   obtain rfl := zsome H
   go_wp2_with (first | ((with_reducible refine gate_dst (N := 26) rfl ?_); refine ev_val rfl (run_cat rfl rfl rfl (of_eq_true c59)) ?_) | ((with_reducible refine gate_store (p := 2) rfl ?_); refine ev_store rfl 0 0 HS (seg := [.int .i64 2, .string ((⟨#[0]⟩ : ByteArray) ++ x45), .slice none 0 0]) rfl rfl rfl rfl rfl rfl (by kernel_rfl) (by simp [wrt]) (by simp [Value.oneCell']) ?_; clear HS; (try clear F); intro w60 HS; (try simp only [hpn, hpm] at HS); have F := HS.boxes; simp only [bxn] at F))
   replace HS := HS.nil 65 q65
   exact bodyPost_ret (results_single rfl (.cell _ _ _ _ _ rfl (HS.boxAt (i := 0) rfl) Tryd.underlying65 rfl (by kernel_rfl) .nil)) rfl ⟨_, rfl, HS.pick [1] (by decide) (by rfl)⟩
/-! ### spec_TextItem: function 76 -/
def spec_TextItem.f (a0 : ByteArray) : Option (S65) := (some (⟨12, a0, ([] : List S65)⟩ : S65))
set_option maxHeartbeats 16000000 in
theorem spec_TextItem.calls {a0 : ByteArray} {r : S65} {w : World} (h : spec_TextItem.f a0 = some r) :
    Calls Tryd.prog 76 #[.string a0] w (fun e w' => ∃ v0_ : Value, e = .returned (.agg #[.int .i64 r.f0, .string r.f1, v0_]) ∧ Hp noFP w w' [.own (Zd.slice 65 q65) r.f2 [v0_]]) := by
 have HS := Hp.start w
 have H := Aside0.mk h
 clear h
 unfold spec_TextItem.f at H
 go_enter Tryd.func76, Tryd.ntmps76
 obtain rfl := zsome H
 go_wp2_with (first | ((with_reducible refine gate_dst (N := 2) rfl ?_); refine ev_box rfl HS (by first | (go_simp; done) | (go_simp; rfl)) rfl ?_; clear HS; (try clear F); intro g2 w2 HS; (try simp only [hpn, hpm] at HS); have F := HS.boxes; simp only [bxn] at F) | ((with_reducible refine gate_store (p := 2) rfl ?_); refine ev_store rfl 0 0 HS (seg := [.int .i64 12, .string a0, .slice none 0 0]) rfl rfl rfl rfl rfl rfl (by kernel_rfl) (by simp [wrt]) (by simp [Value.oneCell']) ?_; clear HS; (try clear F); intro w3 HS; (try simp only [hpn, hpm] at HS); have F := HS.boxes; simp only [bxn] at F))
 replace HS := HS.nil 65 q65
 exact bodyPost_ret (results_single rfl (.cell _ _ _ _ _ rfl (HS.boxAt (i := 0) rfl) Tryd.underlying65 rfl (by kernel_rfl) .nil)) rfl ⟨_, rfl, HS.pick [1] (by decide) (by rfl)⟩
/-! ### spec_l09Bool: function 77 -/
def spec_l09Bool.f (a0 : Bool) : Option (S65) := (if a0 = true then (some (⟨1, (⟨#[255]⟩ : ByteArray), ([] : List S65)⟩ : S65)) else (some (⟨1, (⟨#[0]⟩ : ByteArray), ([] : List S65)⟩ : S65)))
set_option maxHeartbeats 16000000 in
theorem spec_l09Bool.calls {a0 : Bool} {r : S65} {w : World} (h : spec_l09Bool.f a0 = some r) :
    Calls Tryd.prog 77 #[.bool a0] w (fun e w' => ∃ v0_ : Value, e = .returned (.agg #[.int .i64 r.f0, .string r.f1, v0_]) ∧ Hp noFP w w' [.own (Zd.slice 65 q65) r.f2 [v0_]]) := by
 have HS := Hp.start w
 have H := Aside0.mk h
 clear h
 unfold spec_l09Bool.f at H
 go_enter Tryd.func77, Tryd.ntmps77
 go_upto_if 3 with (first | ((with_reducible refine gate_dst (N := 2) rfl ?_); refine ev_box rfl HS (by first | (go_simp; done) | (go_simp; rfl)) rfl ?_; clear HS; (try clear F); intro g2 w2 HS; (try simp only [hpn, hpm] at HS); have F := HS.boxes; simp only [bxn] at F))
 by_cases c3 : a0 = true
 case pos =>
  replace H := zpos c3 H
  subst c3
  (try simp only [dcn, if_true, Bool.false_eq_true, if_false])
  obtain rfl := zsome H
  go_wp2_with (first | ((with_reducible refine gate_store (p := 2) rfl ?_); refine ev_store rfl 0 0 HS (seg := [.int .i64 1, .string (⟨#[255]⟩ : ByteArray), .slice none 0 0]) rfl rfl rfl rfl rfl rfl (by kernel_rfl) (by simp [wrt]) (by simp [Value.oneCell']) ?_; clear HS; (try clear F); intro w4 HS; (try simp only [hpn, hpm] at HS); have F := HS.boxes; simp only [bxn] at F))
  replace HS := HS.nil 65 q65
  exact bodyPost_ret (results_single rfl (.cell _ _ _ _ _ rfl (HS.boxAt (i := 0) rfl) Tryd.underlying65 rfl (by kernel_rfl) .nil)) rfl ⟨_, rfl, HS.pick [1] (by decide) (by rfl)⟩
 replace H := zneg c3 H
 replace c3 := eq_false_of_ne_true c3
 subst c3
 (try simp only [dcn, if_true, Bool.false_eq_true, if_false])
 obtain rfl := zsome H
 go_wp2_with (first | ((with_reducible refine gate_store (p := 2) rfl ?_); refine ev_store rfl 0 0 HS (seg := [.int .i64 1, .string (⟨#[0]⟩ : ByteArray), .slice none 0 0]) rfl rfl rfl rfl rfl rfl (by kernel_rfl) (by simp [wrt]) (by simp [Value.oneCell']) ?_; clear HS; (try clear F); intro w6 HS; (try simp only [hpn, hpm] at HS); have F := HS.boxes; simp only [bxn] at F))
 replace HS := HS.nil 65 q65
 exact bodyPost_ret (results_single rfl (.cell _ _ _ _ _ rfl (HS.boxAt (i := 0) rfl) Tryd.underlying65 rfl (by kernel_rfl) .nil)) rfl ⟨_, rfl, HS.pick [1] (by decide) (by rfl)⟩
end Go.Proofs.YtoaoncnbimcdgaaDoor.F
