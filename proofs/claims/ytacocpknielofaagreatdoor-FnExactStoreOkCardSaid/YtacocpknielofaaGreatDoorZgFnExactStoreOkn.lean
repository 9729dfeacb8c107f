/- Functions of the program and of the law, and that their calls do what is written here. -/
import Derived.Test.YtacocpknielofaaGreatDoorZgFnExactStoreOkh
import Derived.Test.YtacocpknielofaaGreatDoorZgFnExactStoreOki
namespace Go.Proofs.YtacocpknielofaaGreatDoor.F
open Go.RowKit Go.Proofs.YtacocpknielofaaGreatDoorW.PrintWords Go.Proofs.YtacocpknielofaaGreatDoorW.PrintLast Go.Proofs.YtacocpknielofaaGreatDoorW.PrintMore Go.Proofs.YtacocpknielofaaGreatDoor.Z
attribute [local go_sem] max2_int min2_int max_two min_two max_three min_three max_four min_four
set_option linter.unusedVariables false
set_option linter.unusedSimpArgs false
set_option maxRecDepth 100000
/-! ### impl_CrlOk: function 148 -/
def impl_CrlOk.l0 : Nat → Int → S81 → Option (Bool)
  | 0, _, _ => none
  | k + 1, x23, a0 => (if x23 < (a0.f5.length : Int) then (if 0 ≤ x23 then (if x23 < (a0.f5.length : Int) then ((impl_timeOk.f ((rd_T238 a0.f5 x23).f0)).bind fun t102001 => (if t102001 = true then ((impl_within.f ((rd_T238 a0.f5 x23).f1) 1 10).bind fun t107001 => (if t107001 = true then (if (rd_T238 a0.f5 x23).f1 = 8 then (if a0.f4 = 0 then (some false) else (if 0 < x23 then (if 0 ≤ (wrap64 (x23 - 1)) then (if (wrap64 (x23 - 1)) < (a0.f5.length : Int) then (if (rd_T238 a0.f5 x23).f0 ≤ (rd_T238 a0.f5 (wrap64 (x23 - 1))).f0 then (some false) else (impl_CrlOk.l0 k (wrap64 (x23 + 1)) a0)) else none) else none) else (impl_CrlOk.l0 k (wrap64 (x23 + 1)) a0))) else (if 0 < x23 then (if 0 ≤ (wrap64 (x23 - 1)) then (if (wrap64 (x23 - 1)) < (a0.f5.length : Int) then (if (rd_T238 a0.f5 x23).f0 ≤ (rd_T238 a0.f5 (wrap64 (x23 - 1))).f0 then (some false) else (impl_CrlOk.l0 k (wrap64 (x23 + 1)) a0)) else none) else none) else (impl_CrlOk.l0 k (wrap64 (x23 + 1)) a0))) else (some false))) else (some false))) else none) else none) else (some true))
def impl_CrlOk.f (k : Nat) (a0 : S81) : Option (Bool) := ((impl_NameOk.f k a0.f0).bind fun t3 => (if t3 = true then ((impl_within.f a0.f1 1 9999).bind fun t6 => (if t6 = true then ((impl_within.f a0.f4 0 (wrap64 (a0.f1 - 1))).bind fun t9 => (if t9 = true then ((impl_timeOk.f a0.f2).bind fun t12 => (if t12 = true then ((impl_timeOk.f a0.f3).bind fun t15 => (if t15 = true then (if 8 < (a0.f5.length : Int) then (some false) else (if (a0.f6.size : Int) = 15 then (impl_CrlOk.l0 k 0 a0) else (some false))) else (some false))) else (some false))) else (some false))) else (some false))) else (some false)))
def impl_CrlOk.T6 : Bool × List (List Nat × List Nat) := (true, [([], []), ([0], [0]), ([1], [1]), ([2], [2]), ([3, 2], [3]), ([4], [4]), ([5, 4], [4, 5]), ([6, 4, 4], [4, 6]), ([7, 4], [4, 7]), ([4, 8], [4, 8]), ([9, 7], [9]), ([10], [10]), ([11, 10], [10, 11]), ([12, 10], [10, 12]), ([13, 10, 10], [10, 13]), ([14], [14]), ([15, 14], [14, 15]), ([16, 14], [14, 16]), ([14, 17, 10], [10, 14, 17]), ([10, 18], [10, 18]), ([19, 14], [19]), ([20], [20]), ([21, 20], [20, 21]), ([22, 20, 20], [20, 22]), ([23], [23]), ([24, 23], [23, 24]), ([23], [23]), ([26, 23], [23, 26]), ([25, 27, 23], [23, 25, 27]), ([28, 23], [23, 28]), ([29, 23], [23, 29]), ([23], [23]), ([31, 23], [23, 31]), ([30, 32, 23], [23, 30, 32]), ([23, 33, 20], [20, 23, 33]), ([20, 34], [20, 34])])
theorem impl_CrlOk.tT6 : rtab .any (opsOf Tryz.f148 6) = impl_CrlOk.T6 := by kernel_rfl
set_option maxHeartbeats 16000000 in
theorem impl_CrlOk.calls {k : Nat} {a0 : S81} {Ap0 : Option Addr} {np0 cp0 : Nat} {mG : Int} {r : Bool} {w : World} (h : impl_CrlOk.f k a0 = some r) (gp0 : k238.C w Ap0 np0 a0.f5) (lp0 : np0 ≤ cp0) (hgM : w.cell? ⟨0, 0, none⟩ = some (.int .i64 mG)) :
    Calls Tryz.prog 148 #[.agg #[.string a0.f0, .int .i64 a0.f1, .int .i64 a0.f2, .int .i64 a0.f3, .int .i64 a0.f4, .slice Ap0 np0 cp0, .string a0.f6]] w (fun e w' => e = .returned (.bool r) ∧ Hp noFP w w' []) := by
 obtain rfl := C_len gp0
 have HS := Hp.start w
 have H := Aside0.mk h
 clear h
 unfold impl_CrlOk.f at H
 go_enter Tryz.func148, Tryz.ntmps148
 replace H := zbind H; obtain ⟨t3, ht3, H⟩ := H
 by_cases c5 : t3 = true
 case neg =>
  replace H := zneg c5 H
  replace c5 := eq_false_of_ne_true c5
  subst c5
  obtain rfl := zsome H
  go_wp2_with (first | ((with_reducible refine gate_dst (N := 1) rfl ?_); refine ev_box rfl HS (by first | (go_simp; done) | (go_simp; rfl)) rfl ?_; clear HS; (try clear F); intro g1 w1 HS; (try simp only [hpn, hpm] at HS); have F := HS.boxes; simp only [bxn] at F) | ((with_reducible refine gate_dst (N := 7) rfl ?_); refine ev_call rfl Tryz.func62 (by kernel_rfl) rfl #[.string a0.f0] rfl (by simp only [mpn]; rfl) ?_; refine (impl_NameOk.calls ht3.out (HS.keepc hgM)).mono ?_; rintro _ wt3 ⟨rfl, HQ⟩; refine ⟨_, rfl, ?_⟩; replace HS := HS.call HQ; clear HQ; (try clear F); (try simp only [hpn, hpm] at HS); have F := HS.boxes; simp only [bxn] at F))
  go_ret
  exact ⟨rfl, HS.pick [] (by decide) (by rfl)⟩
 replace H := zpos c5 H
 subst c5
 replace H := zbind H; obtain ⟨t6, ht6, H⟩ := H
 by_cases c8 : t6 = true
 case neg =>
  replace H := zneg c8 H
  replace c8 := eq_false_of_ne_true c8
  subst c8
  obtain rfl := zsome H
  go_wp2_with (first | ((with_reducible refine gate_dst (N := 1) rfl ?_); refine ev_box rfl HS (by first | (go_simp; done) | (go_simp; rfl)) rfl ?_; clear HS; (try clear F); intro g1 w1 HS; (try simp only [hpn, hpm] at HS); have F := HS.boxes; simp only [bxn] at F) | ((with_reducible refine gate_dst (N := 7) rfl ?_); refine ev_call rfl Tryz.func62 (by kernel_rfl) rfl #[.string a0.f0] rfl (by simp only [mpn]; rfl) ?_; refine (impl_NameOk.calls ht3.out (HS.keepc hgM)).mono ?_; rintro _ wt3 ⟨rfl, HQ⟩; refine ⟨_, rfl, ?_⟩; replace HS := HS.call HQ; clear HQ; (try clear F); (try simp only [hpn, hpm] at HS); have F := HS.boxes; simp only [bxn] at F) | ((with_reducible refine gate_dst (N := 12) rfl ?_); refine gate_guard (by rfl) ?_; refine ev_call rfl Tryz.func79 (by kernel_rfl) rfl #[.int .i64 a0.f1, .int .i64 1, .int .i64 9999] rfl (by simp only [mpn]; rfl) ?_; refine (impl_within.calls ht6.out).mono ?_; rintro _ wt6 ⟨rfl, HQ⟩; refine ⟨_, rfl, ?_⟩; replace HS := HS.call HQ; clear HQ; (try clear F); (try simp only [hpn, hpm] at HS); have F := HS.boxes; simp only [bxn] at F))
  go_ret
  exact ⟨rfl, HS.pick [] (by decide) (by rfl)⟩
 replace H := zpos c8 H
 subst c8
 replace H := zbind H; obtain ⟨t9, ht9, H⟩ := H
 by_cases c11 : t9 = true
 case neg =>
  replace H := zneg c11 H
  replace c11 := eq_false_of_ne_true c11
  subst c11
  obtain rfl := zsome H
  go_wp2_with (first | ((with_reducible refine gate_dst (N := 1) rfl ?_); refine ev_box rfl HS (by first | (go_simp; done) | (go_simp; rfl)) rfl ?_; clear HS; (try clear F); intro g1 w1 HS; (try simp only [hpn, hpm] at HS); have F := HS.boxes; simp only [bxn] at F) | ((with_reducible refine gate_dst (N := 7) rfl ?_); refine ev_call rfl Tryz.func62 (by kernel_rfl) rfl #[.string a0.f0] rfl (by simp only [mpn]; rfl) ?_; refine (impl_NameOk.calls ht3.out (HS.keepc hgM)).mono ?_; rintro _ wt3 ⟨rfl, HQ⟩; refine ⟨_, rfl, ?_⟩; replace HS := HS.call HQ; clear HQ; (try clear F); (try simp only [hpn, hpm] at HS); have F := HS.boxes; simp only [bxn] at F) | ((with_reducible refine gate_dst (N := 12) rfl ?_); refine gate_guard (by rfl) ?_; refine ev_call rfl Tryz.func79 (by kernel_rfl) rfl #[.int .i64 a0.f1, .int .i64 1, .int .i64 9999] rfl (by simp only [mpn]; rfl) ?_; refine (impl_within.calls ht6.out).mono ?_; rintro _ wt6 ⟨rfl, HQ⟩; refine ⟨_, rfl, ?_⟩; replace HS := HS.call HQ; clear HQ; (try clear F); (try simp only [hpn, hpm] at HS); have F := HS.boxes; simp only [bxn] at F) | ((with_reducible refine gate_dst (N := 21) rfl ?_); refine gate_guard (by rfl) ?_; refine ev_call rfl Tryz.func79 (by kernel_rfl) rfl #[.int .i64 a0.f4, .int .i64 0, .int .i64 (wrap64 (a0.f1 - 1))] rfl (by simp only [mpn]; rfl) ?_; refine (impl_within.calls ht9.out).mono ?_; rintro _ wt9 ⟨rfl, HQ⟩; refine ⟨_, rfl, ?_⟩; replace HS := HS.call HQ; clear HQ; (try clear F); (try simp only [hpn, hpm] at HS); have F := HS.boxes; simp only [bxn] at F))
  go_ret
  exact ⟨rfl, HS.pick [] (by decide) (by rfl)⟩
 replace H := zpos c11 H
 subst c11
 replace H := zbind H; obtain ⟨t12, ht12, H⟩ := H
 by_cases c14 : t12 = true
 case neg =>
  replace H := zneg c14 H
  replace c14 := eq_false_of_ne_true c14
  subst c14
  obtain rfl := zsome H
  go_wp2_with (first | ((with_reducible refine gate_dst (N := 1) rfl ?_); refine ev_box rfl HS (by first | (go_simp; done) | (go_simp; rfl)) rfl ?_; clear HS; (try clear F); intro g1 w1 HS; (try simp only [hpn, hpm] at HS); have F := HS.boxes; simp only [bxn] at F) | ((with_reducible refine gate_dst (N := 7) rfl ?_); refine ev_call rfl Tryz.func62 (by kernel_rfl) rfl #[.string a0.f0] rfl (by simp only [mpn]; rfl) ?_; refine (impl_NameOk.calls ht3.out (HS.keepc hgM)).mono ?_; rintro _ wt3 ⟨rfl, HQ⟩; refine ⟨_, rfl, ?_⟩; replace HS := HS.call HQ; clear HQ; (try clear F); (try simp only [hpn, hpm] at HS); have F := HS.boxes; simp only [bxn] at F) | ((with_reducible refine gate_dst (N := 12) rfl ?_); refine gate_guard (by rfl) ?_; refine ev_call rfl Tryz.func79 (by kernel_rfl) rfl #[.int .i64 a0.f1, .int .i64 1, .int .i64 9999] rfl (by simp only [mpn]; rfl) ?_; refine (impl_within.calls ht6.out).mono ?_; rintro _ wt6 ⟨rfl, HQ⟩; refine ⟨_, rfl, ?_⟩; replace HS := HS.call HQ; clear HQ; (try clear F); (try simp only [hpn, hpm] at HS); have F := HS.boxes; simp only [bxn] at F) | ((with_reducible refine gate_dst (N := 21) rfl ?_); refine gate_guard (by rfl) ?_; refine ev_call rfl Tryz.func79 (by kernel_rfl) rfl #[.int .i64 a0.f4, .int .i64 0, .int .i64 (wrap64 (a0.f1 - 1))] rfl (by simp only [mpn]; rfl) ?_; refine (impl_within.calls ht9.out).mono ?_; rintro _ wt9 ⟨rfl, HQ⟩; refine ⟨_, rfl, ?_⟩; replace HS := HS.call HQ; clear HQ; (try clear F); (try simp only [hpn, hpm] at HS); have F := HS.boxes; simp only [bxn] at F) | ((with_reducible refine gate_dst (N := 27) rfl ?_); refine gate_guard (by rfl) ?_; refine ev_call rfl Tryz.func80 (by kernel_rfl) rfl #[.int .i64 a0.f2] rfl (by simp only [mpn]; rfl) ?_; refine (impl_timeOk.calls ht12.out).mono ?_; rintro _ wt12 ⟨rfl, HQ⟩; refine ⟨_, rfl, ?_⟩; replace HS := HS.call HQ; clear HQ; (try clear F); (try simp only [hpn, hpm] at HS); have F := HS.boxes; simp only [bxn] at F))
  go_ret
  exact ⟨rfl, HS.pick [] (by decide) (by rfl)⟩
 replace H := zpos c14 H
 subst c14
 replace H := zbind H; obtain ⟨t15, ht15, H⟩ := H
 by_cases c17 : t15 = true
 case neg =>
  replace H := zneg c17 H
  replace c17 := eq_false_of_ne_true c17
  subst c17
  obtain rfl := zsome H
  go_wp2_with (first | ((with_reducible refine gate_dst (N := 1) rfl ?_); refine ev_box rfl HS (by first | (go_simp; done) | (go_simp; rfl)) rfl ?_; clear HS; (try clear F); intro g1 w1 HS; (try simp only [hpn, hpm] at HS); have F := HS.boxes; simp only [bxn] at F) | ((with_reducible refine gate_dst (N := 7) rfl ?_); refine ev_call rfl Tryz.func62 (by kernel_rfl) rfl #[.string a0.f0] rfl (by simp only [mpn]; rfl) ?_; refine (impl_NameOk.calls ht3.out (HS.keepc hgM)).mono ?_; rintro _ wt3 ⟨rfl, HQ⟩; refine ⟨_, rfl, ?_⟩; replace HS := HS.call HQ; clear HQ; (try clear F); (try simp only [hpn, hpm] at HS); have F := HS.boxes; simp only [bxn] at F) | ((with_reducible refine gate_dst (N := 12) rfl ?_); refine gate_guard (by rfl) ?_; refine ev_call rfl Tryz.func79 (by kernel_rfl) rfl #[.int .i64 a0.f1, .int .i64 1, .int .i64 9999] rfl (by simp only [mpn]; rfl) ?_; refine (impl_within.calls ht6.out).mono ?_; rintro _ wt6 ⟨rfl, HQ⟩; refine ⟨_, rfl, ?_⟩; replace HS := HS.call HQ; clear HQ; (try clear F); (try simp only [hpn, hpm] at HS); have F := HS.boxes; simp only [bxn] at F) | ((with_reducible refine gate_dst (N := 21) rfl ?_); refine gate_guard (by rfl) ?_; refine ev_call rfl Tryz.func79 (by kernel_rfl) rfl #[.int .i64 a0.f4, .int .i64 0, .int .i64 (wrap64 (a0.f1 - 1))] rfl (by simp only [mpn]; rfl) ?_; refine (impl_within.calls ht9.out).mono ?_; rintro _ wt9 ⟨rfl, HQ⟩; refine ⟨_, rfl, ?_⟩; replace HS := HS.call HQ; clear HQ; (try clear F); (try simp only [hpn, hpm] at HS); have F := HS.boxes; simp only [bxn] at F) | ((with_reducible refine gate_dst (N := 27) rfl ?_); refine gate_guard (by rfl) ?_; refine ev_call rfl Tryz.func80 (by kernel_rfl) rfl #[.int .i64 a0.f2] rfl (by simp only [mpn]; rfl) ?_; refine (impl_timeOk.calls ht12.out).mono ?_; rintro _ wt12 ⟨rfl, HQ⟩; refine ⟨_, rfl, ?_⟩; replace HS := HS.call HQ; clear HQ; (try clear F); (try simp only [hpn, hpm] at HS); have F := HS.boxes; simp only [bxn] at F) | ((with_reducible refine gate_dst (N := 33) rfl ?_); refine gate_guard (by rfl) ?_; refine ev_call rfl Tryz.func80 (by kernel_rfl) rfl #[.int .i64 a0.f3] rfl (by simp only [mpn]; rfl) ?_; refine (impl_timeOk.calls ht15.out).mono ?_; rintro _ wt15 ⟨rfl, HQ⟩; refine ⟨_, rfl, ?_⟩; replace HS := HS.call HQ; clear HQ; (try clear F); (try simp only [hpn, hpm] at HS); have F := HS.boxes; simp only [bxn] at F))
  go_ret
  exact ⟨rfl, HS.pick [] (by decide) (by rfl)⟩
 replace H := zpos c17 H
 subst c17
 by_cases c18 : 8 < (a0.f5.length : Int)
 case pos =>
  replace H := zpos c18 H
  replace c18 := eq_true c18
  obtain rfl := zsome H
  go_wp2_with (first | ((with_reducible refine gate_dst (N := 1) rfl ?_); refine ev_box rfl HS (by first | (go_simp; done) | (go_simp; rfl)) rfl ?_; clear HS; (try clear F); intro g1 w1 HS; (try simp only [hpn, hpm] at HS); have F := HS.boxes; simp only [bxn] at F) | ((with_reducible refine gate_dst (N := 7) rfl ?_); refine ev_call rfl Tryz.func62 (by kernel_rfl) rfl #[.string a0.f0] rfl (by simp only [mpn]; rfl) ?_; refine (impl_NameOk.calls ht3.out (HS.keepc hgM)).mono ?_; rintro _ wt3 ⟨rfl, HQ⟩; refine ⟨_, rfl, ?_⟩; replace HS := HS.call HQ; clear HQ; (try clear F); (try simp only [hpn, hpm] at HS); have F := HS.boxes; simp only [bxn] at F) | ((with_reducible refine gate_dst (N := 12) rfl ?_); refine gate_guard (by rfl) ?_; refine ev_call rfl Tryz.func79 (by kernel_rfl) rfl #[.int .i64 a0.f1, .int .i64 1, .int .i64 9999] rfl (by simp only [mpn]; rfl) ?_; refine (impl_within.calls ht6.out).mono ?_; rintro _ wt6 ⟨rfl, HQ⟩; refine ⟨_, rfl, ?_⟩; replace HS := HS.call HQ; clear HQ; (try clear F); (try simp only [hpn, hpm] at HS); have F := HS.boxes; simp only [bxn] at F) | ((with_reducible refine gate_dst (N := 21) rfl ?_); refine gate_guard (by rfl) ?_; refine ev_call rfl Tryz.func79 (by kernel_rfl) rfl #[.int .i64 a0.f4, .int .i64 0, .int .i64 (wrap64 (a0.f1 - 1))] rfl (by simp only [mpn]; rfl) ?_; refine (impl_within.calls ht9.out).mono ?_; rintro _ wt9 ⟨rfl, HQ⟩; refine ⟨_, rfl, ?_⟩; replace HS := HS.call HQ; clear HQ; (try clear F); (try simp only [hpn, hpm] at HS); have F := HS.boxes; simp only [bxn] at F) | ((with_reducible refine gate_dst (N := 27) rfl ?_); refine gate_guard (by rfl) ?_; refine ev_call rfl Tryz.func80 (by kernel_rfl) rfl #[.int .i64 a0.f2] rfl (by simp only [mpn]; rfl) ?_; refine (impl_timeOk.calls ht12.out).mono ?_; rintro _ wt12 ⟨rfl, HQ⟩; refine ⟨_, rfl, ?_⟩; replace HS := HS.call HQ; clear HQ; (try clear F); (try simp only [hpn, hpm] at HS); have F := HS.boxes; simp only [bxn] at F) | ((with_reducible refine gate_dst (N := 33) rfl ?_); refine gate_guard (by rfl) ?_; refine ev_call rfl Tryz.func80 (by kernel_rfl) rfl #[.int .i64 a0.f3] rfl (by simp only [mpn]; rfl) ?_; refine (impl_timeOk.calls ht15.out).mono ?_; rintro _ wt15 ⟨rfl, HQ⟩; refine ⟨_, rfl, ?_⟩; replace HS := HS.call HQ; clear HQ; (try clear F); (try simp only [hpn, hpm] at HS); have F := HS.boxes; simp only [bxn] at F))
  go_ret
  exact ⟨rfl, HS.pick [] (by decide) (by rfl)⟩
 replace H := zneg c18 H
 replace c18 := eq_false c18
 go_upto_if 47 with (first | ((with_reducible refine gate_dst (N := 1) rfl ?_); refine ev_box rfl HS (by first | (go_simp; done) | (go_simp; rfl)) rfl ?_; clear HS; (try clear F); intro g1 w1 HS; (try simp only [hpn, hpm] at HS); have F := HS.boxes; simp only [bxn] at F) | ((with_reducible refine gate_dst (N := 7) rfl ?_); refine ev_call rfl Tryz.func62 (by kernel_rfl) rfl #[.string a0.f0] rfl (by simp only [mpn]; rfl) ?_; refine (impl_NameOk.calls ht3.out (HS.keepc hgM)).mono ?_; rintro _ wt3 ⟨rfl, HQ⟩; refine ⟨_, rfl, ?_⟩; replace HS := HS.call HQ; clear HQ; (try clear F); (try simp only [hpn, hpm] at HS); have F := HS.boxes; simp only [bxn] at F) | ((with_reducible refine gate_dst (N := 12) rfl ?_); refine gate_guard (by rfl) ?_; refine ev_call rfl Tryz.func79 (by kernel_rfl) rfl #[.int .i64 a0.f1, .int .i64 1, .int .i64 9999] rfl (by simp only [mpn]; rfl) ?_; refine (impl_within.calls ht6.out).mono ?_; rintro _ wt6 ⟨rfl, HQ⟩; refine ⟨_, rfl, ?_⟩; replace HS := HS.call HQ; clear HQ; (try clear F); (try simp only [hpn, hpm] at HS); have F := HS.boxes; simp only [bxn] at F) | ((with_reducible refine gate_dst (N := 21) rfl ?_); refine gate_guard (by rfl) ?_; refine ev_call rfl Tryz.func79 (by kernel_rfl) rfl #[.int .i64 a0.f4, .int .i64 0, .int .i64 (wrap64 (a0.f1 - 1))] rfl (by simp only [mpn]; rfl) ?_; refine (impl_within.calls ht9.out).mono ?_; rintro _ wt9 ⟨rfl, HQ⟩; refine ⟨_, rfl, ?_⟩; replace HS := HS.call HQ; clear HQ; (try clear F); (try simp only [hpn, hpm] at HS); have F := HS.boxes; simp only [bxn] at F) | ((with_reducible refine gate_dst (N := 27) rfl ?_); refine gate_guard (by rfl) ?_; refine ev_call rfl Tryz.func80 (by kernel_rfl) rfl #[.int .i64 a0.f2] rfl (by simp only [mpn]; rfl) ?_; refine (impl_timeOk.calls ht12.out).mono ?_; rintro _ wt12 ⟨rfl, HQ⟩; refine ⟨_, rfl, ?_⟩; replace HS := HS.call HQ; clear HQ; (try clear F); (try simp only [hpn, hpm] at HS); have F := HS.boxes; simp only [bxn] at F) | ((with_reducible refine gate_dst (N := 33) rfl ?_); refine gate_guard (by rfl) ?_; refine ev_call rfl Tryz.func80 (by kernel_rfl) rfl #[.int .i64 a0.f3] rfl (by simp only [mpn]; rfl) ?_; refine (impl_timeOk.calls ht15.out).mono ?_; rintro _ wt15 ⟨rfl, HQ⟩; refine ⟨_, rfl, ?_⟩; replace HS := HS.call HQ; clear HQ; (try clear F); (try simp only [hpn, hpm] at HS); have F := HS.boxes; simp only [bxn] at F))
 by_cases c19 : (a0.f6.size : Int) = 15
 case neg =>
  replace H := zneg c19 H
  have c19a := beq_eq_false_iff_ne.mpr c19
  have c19b := bne_iff_ne.mpr c19
  clear c19
  (try simp only [c19a, c19b, dcn])
  obtain rfl := zsome H
  go_wp2
  go_ret
  exact ⟨rfl, HS.pick [] (by decide) (by rfl)⟩
 replace H := zpos c19 H
 have c19a := beq_iff_eq.mpr c19
 have c19b := bne_eq_false_iff_eq.mpr c19
 clear c19
 (try simp only [c19a, c19b, dcn])
 go_wp2
 go_loopg [51] k (fun kq v_51 w' => ∃ (x23 : Int), v_51 = .int .i64 x23 ∧ Aside0 (impl_CrlOk.l0 kq x23 a0 = some r) ∧ Aside0 (kq ≤ k) ∧ Hp noFP w w' [.box g1 [.string a0.f0, .int .i64 a0.f1, .int .i64 a0.f2, .int .i64 a0.f3, .int .i64 a0.f4, .slice Ap0 a0.f5.length cp0, .string a0.f6] 81])
 case atStart => exact ⟨_, rfl, H, ⟨Nat.le_refl _⟩, HS⟩
 case round =>
  clear HS H; (try clear F)
  obtain ⟨x23, rfl, H, HKk22, HS⟩ := hrel
  have F := HS.boxes; simp only [bxn] at F
  cases gk with
  | zero => exact absurd H.out (by simp [impl_CrlOk.l0])
  | succ k22 =>
   simp only [impl_CrlOk.l0] at H
   by_cases c25 : x23 < (a0.f5.length : Int)
   case neg =>
    replace H := zneg c25 H
    replace c25 := eq_false c25
    obtain rfl := zsome H
    go_wp2
    go_ret
    exact ⟨rfl, HS.pick [] (by decide) (by rfl)⟩
   replace H := zpos c25 H
   replace c25 := eq_true c25
   by_cases c26 : 0 ≤ x23
   case neg => exact zno c26 H
   replace H := zpos c26 H
   replace c26 := eq_true c26
   by_cases c27 : x23 < (a0.f5.length : Int)
   case neg => exact zno c27 H
   replace H := zpos c27 H
   replace c27 := eq_true c27
   obtain ⟨ad28, rfl, e28_0, e28_1⟩ := at_T238 gp0 x23 (of_eq_true c26) (of_eq_true c27)
   have e28_0_28 := (HS.keepc e28_0)
   have e28_1_28 := (HS.keepc e28_1)
   go_wp2_with (first | ((with_reducible refine gate_dst (N := 4) rfl ?_); refine ev_box rfl HS (by first | (go_simp; done) | (go_simp; rfl)) rfl ?_; clear HS; (try clear F); intro g4 w4 HS; (try simp only [hpn, hpm] at HS); have F := HS.boxes; simp only [bxn] at F) | ((with_reducible refine gate_store (p := 4) rfl ?_); refine ev_store rfl 1 0 HS (seg := [.int .i64 ((rd_T238 a0.f5 x23).f0), .int .i64 ((rd_T238 a0.f5 x23).f1)]) rfl rfl rfl rfl rfl rfl (by kernel_rfl) (by simp [wrt]) (by simp [Value.oneCell']) ?_; clear HS; (try clear F); intro w31 HS; (try simp only [hpn, hpm] at HS); have F := HS.boxes; simp only [bxn] at F))
   replace H := zbind H; obtain ⟨t102001, ht102001, H⟩ := H
   by_cases c104001 : t102001 = true
   case neg =>
    replace H := zneg c104001 H
    replace c104001 := eq_false_of_ne_true c104001
    subst c104001
    refine dr_start [] HS #[false, false, false, false, false, false, false, false, false, false, false, false, false, false, false, false, false, false, false, false, false, false, false, false, false, false, false, false, false, false, false, false, false, false, false, false] (by kernel_rfl) rfl rfl impl_CrlOk.tT6 (fun w48 HT HS HH => ?_)
    (try clear F)
    refine drq_of [(0, some 56), (1, some 57)] ?_
    repeat (first | (refine drq_pure HT (v := ?_) (a' := ?_) rfl rfl (by kernel_rfl) (fun _ _ _ h => h) (.inl ⟨by rfl, ?_⟩) ?_ ?_; rotate_left; (intro w'; go_simp; with_reducible rfl); rotate_left; (simp only [Act.put, ptn]; rfl)) | (refine drq_take HT HH (v := ?_) (a' := ?_) rfl rfl (by kernel_rfl) (fun _ _ _ h => h) (.inl ⟨by rfl, ?_⟩) ?_ ?_; rotate_left; (rintro w' ⟨rs', HS'⟩; have F := HS'.boxes; simp only [bxn, List.cons_append, List.nil_append] at F; go_simp; with_reducible rfl); rotate_left; (simp only [Act.put, ptn]; rfl)))
    refine drq_end ?_
    refine dr_one 2 HT rfl (by kernel_rfl) (by decide) (fun K hK => ?_)
    refine goes_ Tryz.func80 (by kernel_rfl) rfl #[.int .i64 ((rd_T238 a0.f5 x23).f0)] (by rfl) rfl rfl (by simp only [mpn]; rfl) ?_; refine (impl_timeOk.calls ht102001.out).mono ?_; rintro _ wt102001 ⟨rfl, HQ⟩; refine ⟨_, rfl, ?_⟩; replace HS := HS.call HQ; clear HQ; (try clear F)
    (try simp only [hpn, hpm] at HS)
    have F := HS.boxes; simp only [bxn] at F
    refine hK.out _ _ ⟨_, HS⟩ (fun HH => ?_)
    clear hK K
    refine norm_ (a' := ?_) ?_ ?_
    rotate_left
    · show Act.put _ (some 58) _ = _; simp only [Act.put, ptn]; rfl
    refine drq_of [(3, some 59), (4, some 60), (5, some 61), (6, some 62), (7, some 63), (8, some 64), (9, some 65), (10, some 66), (11, some 67), (12, some 68), (13, some 69), (14, some 70), (15, some 71), (16, some 72), (17, some 73), (18, some 74), (19, some 75), (20, some 76), (21, some 77), (22, some 78), (23, some 79), (24, some 80), (25, some 81), (26, some 82), (27, some 83), (28, some 84), (29, some 85), (30, some 86), (31, some 87), (32, some 88), (33, some 89), (34, some 90), (35, some 91)] ?_
    repeat (first | (refine drq_pure HT (v := ?_) (a' := ?_) rfl rfl (by kernel_rfl) (fun _ _ _ h => h) (.inl ⟨by rfl, ?_⟩) ?_ ?_; rotate_left; (intro w'; go_simp; with_reducible rfl); rotate_left; (simp only [Act.put, ptn]; rfl)) | (refine drq_pure HT (v := undef) (a' := ?_) rfl rfl (by kernel_rfl) (fun _ _ _ h => h) (.inr ⟨by rfl, rfl⟩) ?_ ?_; rotate_left; (simp only [Act.put, ptn]; rfl)))
    refine drq_end ?_
    refine done_ (done_of HT.out (by kernel_rfl)) ?_
    (try clear F)
    have F := HS.boxes; simp only [bxn] at F
    obtain rfl := zsome H
    go_wp2
    go_ret
    exact ⟨rfl, HS.pick [] (by decide) (by rfl)⟩
   replace H := zpos c104001 H
   subst c104001
   replace H := zbind H; obtain ⟨t107001, ht107001, H⟩ := H
   by_cases c110001 : t107001 = true
   case neg =>
    replace H := zneg c110001 H
    replace c110001 := eq_false_of_ne_true c110001
    subst c110001
    refine dr_start [] HS #[false, false, false, false, false, false, false, false, false, false, false, false, false, false, false, false, false, false, false, false, false, false, false, false, false, false, false, false, false, false, false, false, false, false, false, false] (by kernel_rfl) rfl rfl impl_CrlOk.tT6 (fun w46 HT HS HH => ?_)
    (try clear F)
    refine drq_of [(0, some 56), (1, some 57)] ?_
    repeat (first | (refine drq_pure HT (v := ?_) (a' := ?_) rfl rfl (by kernel_rfl) (fun _ _ _ h => h) (.inl ⟨by rfl, ?_⟩) ?_ ?_; rotate_left; (intro w'; go_simp; with_reducible rfl); rotate_left; (simp only [Act.put, ptn]; rfl)) | (refine drq_take HT HH (v := ?_) (a' := ?_) rfl rfl (by kernel_rfl) (fun _ _ _ h => h) (.inl ⟨by rfl, ?_⟩) ?_ ?_; rotate_left; (rintro w' ⟨rs', HS'⟩; have F := HS'.boxes; simp only [bxn, List.cons_append, List.nil_append] at F; go_simp; with_reducible rfl); rotate_left; (simp only [Act.put, ptn]; rfl)))
    refine drq_end ?_
    refine dr_one 2 HT rfl (by kernel_rfl) (by decide) (fun K hK => ?_)
    refine goes_ Tryz.func80 (by kernel_rfl) rfl #[.int .i64 ((rd_T238 a0.f5 x23).f0)] (by rfl) rfl rfl (by simp only [mpn]; rfl) ?_; refine (impl_timeOk.calls ht102001.out).mono ?_; rintro _ wt102001 ⟨rfl, HQ⟩; refine ⟨_, rfl, ?_⟩; replace HS := HS.call HQ; clear HQ; (try clear F)
    (try simp only [hpn, hpm] at HS)
    have F := HS.boxes; simp only [bxn] at F
    refine hK.out _ _ ⟨_, HS⟩ (fun HH => ?_)
    clear hK K
    refine norm_ (a' := ?_) ?_ ?_
    rotate_left
    · show Act.put _ (some 58) _ = _; simp only [Act.put, ptn]; rfl
    refine drq_of [(3, some 59), (4, some 60), (5, some 61), (6, some 62)] ?_
    repeat (first | (refine drq_pure HT (v := ?_) (a' := ?_) rfl rfl (by kernel_rfl) (fun _ _ _ h => h) (.inl ⟨by rfl, ?_⟩) ?_ ?_; rotate_left; (intro w'; go_simp; with_reducible rfl); rotate_left; (simp only [Act.put, ptn]; rfl)) | (refine drq_take HT HH (v := ?_) (a' := ?_) rfl rfl (by kernel_rfl) (fun _ _ _ h => h) (.inl ⟨by rfl, ?_⟩) ?_ ?_; rotate_left; (rintro w' ⟨rs', HS'⟩; have F := HS'.boxes; simp only [bxn, List.cons_append, List.nil_append] at F; go_simp; with_reducible rfl); rotate_left; (simp only [Act.put, ptn]; rfl)))
    refine drq_end ?_
    refine dr_one 7 HT rfl (by kernel_rfl) (by decide) (fun K hK => ?_)
    refine goes_ Tryz.func79 (by kernel_rfl) rfl #[.int .i64 ((rd_T238 a0.f5 x23).f1), .int .i64 1, .int .i64 10] (by rfl) rfl rfl (by simp only [mpn]; rfl) ?_; refine (impl_within.calls ht107001.out).mono ?_; rintro _ wt107001 ⟨rfl, HQ⟩; refine ⟨_, rfl, ?_⟩; replace HS := HS.call HQ; clear HQ; (try clear F)
    (try simp only [hpn, hpm] at HS)
    have F := HS.boxes; simp only [bxn] at F
    refine hK.out _ _ ⟨_, HS⟩ (fun HH => ?_)
    clear hK K
    refine norm_ (a' := ?_) ?_ ?_
    rotate_left
    · show Act.put _ (some 63) _ = _; simp only [Act.put, ptn]; rfl
    refine drq_of [(8, some 64), (9, some 65), (10, some 66), (11, some 67), (12, some 68), (13, some 69), (14, some 70), (15, some 71), (16, some 72), (17, some 73), (18, some 74), (19, some 75), (20, some 76), (21, some 77), (22, some 78), (23, some 79), (24, some 80), (25, some 81), (26, some 82), (27, some 83), (28, some 84), (29, some 85), (30, some 86), (31, some 87), (32, some 88), (33, some 89), (34, some 90), (35, some 91)] ?_
    repeat (first | (refine drq_pure HT (v := ?_) (a' := ?_) rfl rfl (by kernel_rfl) (fun _ _ _ h => h) (.inl ⟨by rfl, ?_⟩) ?_ ?_; rotate_left; (intro w'; go_simp; with_reducible rfl); rotate_left; (simp only [Act.put, ptn]; rfl)) | (refine drq_pure HT (v := undef) (a' := ?_) rfl rfl (by kernel_rfl) (fun _ _ _ h => h) (.inr ⟨by rfl, rfl⟩) ?_ ?_; rotate_left; (simp only [Act.put, ptn]; rfl)))
    refine drq_end ?_
    refine done_ (done_of HT.out (by kernel_rfl)) ?_
    (try clear F)
    have F := HS.boxes; simp only [bxn] at F
    obtain rfl := zsome H
    go_wp2
    go_ret
    exact ⟨rfl, HS.pick [] (by decide) (by rfl)⟩
   replace H := zpos c110001 H
   subst c110001
   by_cases c114001 : (rd_T238 a0.f5 x23).f1 = 8
   case neg =>
    replace H := zneg c114001 H
    have c114001a := beq_eq_false_iff_ne.mpr c114001
    have c114001b := bne_iff_ne.mpr c114001
    clear c114001
    by_cases c123001 : 0 < x23
    case neg =>
     replace H := zneg c123001 H
     replace c123001 := eq_false c123001
     refine dr_start [] HS #[false, false, false, false, false, false, false, false, false, false, false, false, false, false, false, false, false, false, false, false, false, false, false, false, false, false, false, false, false, false, false, false, false, false, false, false] (by kernel_rfl) rfl rfl impl_CrlOk.tT6 (fun w44 HT HS HH => ?_)
     (try clear F)
     refine drq_of [(0, some 56), (1, some 57)] ?_
     repeat (first | (refine drq_pure HT (v := ?_) (a' := ?_) rfl rfl (by kernel_rfl) (fun _ _ _ h => h) (.inl ⟨by rfl, ?_⟩) ?_ ?_; rotate_left; (intro w'; go_simp; with_reducible rfl); rotate_left; (simp only [Act.put, ptn]; rfl)) | (refine drq_take HT HH (v := ?_) (a' := ?_) rfl rfl (by kernel_rfl) (fun _ _ _ h => h) (.inl ⟨by rfl, ?_⟩) ?_ ?_; rotate_left; (rintro w' ⟨rs', HS'⟩; have F := HS'.boxes; simp only [bxn, List.cons_append, List.nil_append] at F; go_simp; with_reducible rfl); rotate_left; (simp only [Act.put, ptn]; rfl)))
     refine drq_end ?_
     refine dr_one 2 HT rfl (by kernel_rfl) (by decide) (fun K hK => ?_)
     refine goes_ Tryz.func80 (by kernel_rfl) rfl #[.int .i64 ((rd_T238 a0.f5 x23).f0)] (by rfl) rfl rfl (by simp only [mpn]; rfl) ?_; refine (impl_timeOk.calls ht102001.out).mono ?_; rintro _ wt102001 ⟨rfl, HQ⟩; refine ⟨_, rfl, ?_⟩; replace HS := HS.call HQ; clear HQ; (try clear F)
     (try simp only [hpn, hpm] at HS)
     have F := HS.boxes; simp only [bxn] at F
     refine hK.out _ _ ⟨_, HS⟩ (fun HH => ?_)
     clear hK K
     refine norm_ (a' := ?_) ?_ ?_
     rotate_left
     · show Act.put _ (some 58) _ = _; simp only [Act.put, ptn]; rfl
     refine drq_of [(3, some 59), (4, some 60), (5, some 61), (6, some 62)] ?_
     repeat (first | (refine drq_pure HT (v := ?_) (a' := ?_) rfl rfl (by kernel_rfl) (fun _ _ _ h => h) (.inl ⟨by rfl, ?_⟩) ?_ ?_; rotate_left; (intro w'; go_simp; with_reducible rfl); rotate_left; (simp only [Act.put, ptn]; rfl)) | (refine drq_take HT HH (v := ?_) (a' := ?_) rfl rfl (by kernel_rfl) (fun _ _ _ h => h) (.inl ⟨by rfl, ?_⟩) ?_ ?_; rotate_left; (rintro w' ⟨rs', HS'⟩; have F := HS'.boxes; simp only [bxn, List.cons_append, List.nil_append] at F; go_simp; with_reducible rfl); rotate_left; (simp only [Act.put, ptn]; rfl)))
     refine drq_end ?_
     refine dr_one 7 HT rfl (by kernel_rfl) (by decide) (fun K hK => ?_)
     refine goes_ Tryz.func79 (by kernel_rfl) rfl #[.int .i64 ((rd_T238 a0.f5 x23).f1), .int .i64 1, .int .i64 10] (by rfl) rfl rfl (by simp only [mpn]; rfl) ?_; refine (impl_within.calls ht107001.out).mono ?_; rintro _ wt107001 ⟨rfl, HQ⟩; refine ⟨_, rfl, ?_⟩; replace HS := HS.call HQ; clear HQ; (try clear F)
     (try simp only [hpn, hpm] at HS)
     have F := HS.boxes; simp only [bxn] at F
     refine hK.out _ _ ⟨_, HS⟩ (fun HH => ?_)
     clear hK K
     refine norm_ (a' := ?_) ?_ ?_
     rotate_left
     · show Act.put _ (some 63) _ = _; simp only [Act.put, ptn]; rfl
     refine drq_of [(8, some 64), (9, some 65), (10, some 66), (11, some 67), (12, some 68), (13, some 69), (14, some 70), (15, some 71), (16, some 72), (17, some 73), (18, some 74), (19, some 75), (20, some 76), (21, some 77), (22, some 78), (23, some 79), (24, some 80), (25, some 81), (26, some 82), (27, some 83), (28, some 84), (29, some 85), (30, some 86), (31, some 87), (32, some 88), (33, some 89), (34, some 90), (35, some 91)] ?_
     repeat (first | (refine drq_pure HT (v := ?_) (a' := ?_) rfl rfl (by kernel_rfl) (fun _ _ _ h => h) (.inl ⟨by rfl, ?_⟩) ?_ ?_; rotate_left; (intro w'; go_simp; with_reducible rfl); rotate_left; (simp only [Act.put, ptn]; rfl)) | (refine drq_pure HT (v := undef) (a' := ?_) rfl rfl (by kernel_rfl) (fun _ _ _ h => h) (.inr ⟨by rfl, rfl⟩) ?_ ?_; rotate_left; (simp only [Act.put, ptn]; rfl)) | (refine drq_take HT HH (v := ?_) (a' := ?_) rfl rfl (by kernel_rfl) (fun _ _ _ h => h) (.inl ⟨by rfl, ?_⟩) ?_ ?_; rotate_left; (rintro w' ⟨rs', HS'⟩; have F := HS'.boxes; simp only [bxn, List.cons_append, List.nil_append] at F; go_simp; with_reducible rfl); rotate_left; (simp only [Act.put, ptn]; rfl)))
     refine drq_end ?_
     refine done_ (done_of HT.out (by kernel_rfl)) ?_
     (try clear F)
     have F := HS.boxes; simp only [bxn] at F
     go_wp2
     go_roundg k22
     case measure => have := HKk22.out; omega
     case rel => exact ⟨_, rfl, H, ⟨by have := HKk22.out; omega⟩, HS.pick [0] (by decide) (by rfl)⟩
    replace H := zpos c123001 H
    replace c123001 := eq_true c123001
    by_cases c128001 : 0 ≤ (wrap64 (x23 - 1))
    case neg => exact zno c128001 H
    replace H := zpos c128001 H
    replace c128001 := eq_true c128001
    by_cases c128002 : (wrap64 (x23 - 1)) < (a0.f5.length : Int)
    case neg => exact zno c128002 H
    replace H := zpos c128002 H
    replace c128002 := eq_true c128002
    obtain ⟨ad128999, hq128999, e128999_0, e128999_1⟩ := at_T238 gp0 (wrap64 (x23 - 1)) (of_eq_true c128001) (of_eq_true c128002); obtain rfl := Option.some.inj hq128999
    refine dr_start [] HS #[false, false, false, false, false, false, false, false, false, false, false, false, false, false, false, false, false, false, false, false, false, false, false, false, false, false, false, false, false, false, false, false, false, false, false, false] (by kernel_rfl) rfl rfl impl_CrlOk.tT6 (fun w41 HT HS HH => ?_)
    (try clear F)
    refine drq_of [(0, some 56), (1, some 57)] ?_
    repeat (first | (refine drq_pure HT (v := ?_) (a' := ?_) rfl rfl (by kernel_rfl) (fun _ _ _ h => h) (.inl ⟨by rfl, ?_⟩) ?_ ?_; rotate_left; (intro w'; go_simp; with_reducible rfl); rotate_left; (simp only [Act.put, ptn]; rfl)) | (refine drq_take HT HH (v := ?_) (a' := ?_) rfl rfl (by kernel_rfl) (fun _ _ _ h => h) (.inl ⟨by rfl, ?_⟩) ?_ ?_; rotate_left; (rintro w' ⟨rs', HS'⟩; have F := HS'.boxes; simp only [bxn, List.cons_append, List.nil_append] at F; go_simp; with_reducible rfl); rotate_left; (simp only [Act.put, ptn]; rfl)))
    refine drq_end ?_
    refine dr_one 2 HT rfl (by kernel_rfl) (by decide) (fun K hK => ?_)
    refine goes_ Tryz.func80 (by kernel_rfl) rfl #[.int .i64 ((rd_T238 a0.f5 x23).f0)] (by rfl) rfl rfl (by simp only [mpn]; rfl) ?_; refine (impl_timeOk.calls ht102001.out).mono ?_; rintro _ wt102001 ⟨rfl, HQ⟩; refine ⟨_, rfl, ?_⟩; replace HS := HS.call HQ; clear HQ; (try clear F)
    (try simp only [hpn, hpm] at HS)
    have F := HS.boxes; simp only [bxn] at F
    refine hK.out _ _ ⟨_, HS⟩ (fun HH => ?_)
    clear hK K
    refine norm_ (a' := ?_) ?_ ?_
    rotate_left
    · show Act.put _ (some 58) _ = _; simp only [Act.put, ptn]; rfl
    refine drq_of [(3, some 59), (4, some 60), (5, some 61), (6, some 62)] ?_
    repeat (first | (refine drq_pure HT (v := ?_) (a' := ?_) rfl rfl (by kernel_rfl) (fun _ _ _ h => h) (.inl ⟨by rfl, ?_⟩) ?_ ?_; rotate_left; (intro w'; go_simp; with_reducible rfl); rotate_left; (simp only [Act.put, ptn]; rfl)) | (refine drq_take HT HH (v := ?_) (a' := ?_) rfl rfl (by kernel_rfl) (fun _ _ _ h => h) (.inl ⟨by rfl, ?_⟩) ?_ ?_; rotate_left; (rintro w' ⟨rs', HS'⟩; have F := HS'.boxes; simp only [bxn, List.cons_append, List.nil_append] at F; go_simp; with_reducible rfl); rotate_left; (simp only [Act.put, ptn]; rfl)))
    refine drq_end ?_
    refine dr_one 7 HT rfl (by kernel_rfl) (by decide) (fun K hK => ?_)
    refine goes_ Tryz.func79 (by kernel_rfl) rfl #[.int .i64 ((rd_T238 a0.f5 x23).f1), .int .i64 1, .int .i64 10] (by rfl) rfl rfl (by simp only [mpn]; rfl) ?_; refine (impl_within.calls ht107001.out).mono ?_; rintro _ wt107001 ⟨rfl, HQ⟩; refine ⟨_, rfl, ?_⟩; replace HS := HS.call HQ; clear HQ; (try clear F)
    (try simp only [hpn, hpm] at HS)
    have F := HS.boxes; simp only [bxn] at F
    refine hK.out _ _ ⟨_, HS⟩ (fun HH => ?_)
    clear hK K
    refine norm_ (a' := ?_) ?_ ?_
    rotate_left
    · show Act.put _ (some 63) _ = _; simp only [Act.put, ptn]; rfl
    refine drq_of [(8, some 64), (9, some 65), (10, some 66), (11, some 67), (12, some 68), (13, some 69), (14, some 70), (15, some 71), (16, some 72), (17, some 73), (18, some 74), (19, some 75), (20, some 76), (21, some 77), (22, some 78), (23, some 79), (24, some 80), (25, some 81), (26, some 82), (27, some 83), (28, some 84), (29, some 85)] ?_
    repeat (first | (refine drq_pure HT (v := ?_) (a' := ?_) rfl rfl (by kernel_rfl) (fun _ _ _ h => h) (.inl ⟨by rfl, ?_⟩) ?_ ?_; rotate_left; (intro w'; go_simp; with_reducible rfl); rotate_left; (simp only [Act.put, ptn]; rfl)) | (refine drq_pure HT (v := undef) (a' := ?_) rfl rfl (by kernel_rfl) (fun _ _ _ h => h) (.inr ⟨by rfl, rfl⟩) ?_ ?_; rotate_left; (simp only [Act.put, ptn]; rfl)) | (refine drq_take HT HH (v := ?_) (a' := ?_) rfl rfl (by kernel_rfl) (fun _ _ _ h => h) (.inl ⟨by rfl, ?_⟩) ?_ ?_; rotate_left; (rintro w' ⟨rs', HS'⟩; have F := HS'.boxes; simp only [bxn, List.cons_append, List.nil_append] at F; go_simp; with_reducible rfl); rotate_left; (simp only [Act.put, ptn]; rfl)))
    refine drq_end ?_
    refine dr_take 30 (some 86) HT HH (v := ?_) (a' := ?_) rfl rfl (by kernel_rfl) (fun _ _ _ h => h) (.inl ⟨by rfl, ?_⟩) ?_ ?_
    rotate_left
    · rintro w' ⟨rs', HS'⟩; have e128999_0 := (HS'.keepc e128999_0); have e128999_1 := (HS'.keepc e128999_1); go_simp; with_reducible rfl
    rotate_left
    · simp only [Act.put, ptn]; rfl
    refine drq_of [(31, some 87), (32, some 88), (33, some 89), (34, some 90), (35, some 91)] ?_
    repeat (first | (refine drq_pure HT (v := ?_) (a' := ?_) rfl rfl (by kernel_rfl) (fun _ _ _ h => h) (.inl ⟨by rfl, ?_⟩) ?_ ?_; rotate_left; (intro w'; go_simp; with_reducible rfl); rotate_left; (simp only [Act.put, ptn]; rfl)) | (refine drq_take HT HH (v := ?_) (a' := ?_) rfl rfl (by kernel_rfl) (fun _ _ _ h => h) (.inl ⟨by rfl, ?_⟩) ?_ ?_; rotate_left; (rintro w' ⟨rs', HS'⟩; have F := HS'.boxes; simp only [bxn, List.cons_append, List.nil_append] at F; go_simp; with_reducible rfl); rotate_left; (simp only [Act.put, ptn]; rfl)))
    refine drq_end ?_
    refine done_ (done_of HT.out (by kernel_rfl)) ?_
    (try clear F)
    have F := HS.boxes; simp only [bxn] at F
    by_cases c43 : (rd_T238 a0.f5 x23).f0 ≤ (rd_T238 a0.f5 (wrap64 (x23 - 1))).f0
    case pos =>
     replace H := zpos c43 H
     replace c43 := eq_true c43
     (try simp only [c43, dcn])
     obtain rfl := zsome H
     go_wp2
     go_ret
     exact ⟨rfl, HS.pick [] (by decide) (by rfl)⟩
    replace H := zneg c43 H
    replace c43 := eq_false c43
    (try simp only [c43, dcn])
    go_wp2
    go_roundg k22
    case measure => have := HKk22.out; omega
    case rel => exact ⟨_, rfl, H, ⟨by have := HKk22.out; omega⟩, HS.pick [0] (by decide) (by rfl)⟩
   replace H := zpos c114001 H
   have c114001a := beq_iff_eq.mpr c114001
   have c114001b := bne_eq_false_iff_eq.mpr c114001
   clear c114001
   by_cases c120001 : a0.f4 = 0
   case pos =>
    replace H := zpos c120001 H
    have c120001a := beq_iff_eq.mpr c120001
    have c120001b := bne_eq_false_iff_eq.mpr c120001
    clear c120001
    refine dr_start [] HS #[false, false, false, false, false, false, false, false, false, false, false, false, false, false, false, false, false, false, false, false, false, false, false, false, false, false, false, false, false, false, false, false, false, false, false, false] (by kernel_rfl) rfl rfl impl_CrlOk.tT6 (fun w34 HT HS HH => ?_)
    (try clear F)
    refine drq_of [(0, some 56), (1, some 57)] ?_
    repeat (first | (refine drq_pure HT (v := ?_) (a' := ?_) rfl rfl (by kernel_rfl) (fun _ _ _ h => h) (.inl ⟨by rfl, ?_⟩) ?_ ?_; rotate_left; (intro w'; go_simp; with_reducible rfl); rotate_left; (simp only [Act.put, ptn]; rfl)) | (refine drq_take HT HH (v := ?_) (a' := ?_) rfl rfl (by kernel_rfl) (fun _ _ _ h => h) (.inl ⟨by rfl, ?_⟩) ?_ ?_; rotate_left; (rintro w' ⟨rs', HS'⟩; have F := HS'.boxes; simp only [bxn, List.cons_append, List.nil_append] at F; go_simp; with_reducible rfl); rotate_left; (simp only [Act.put, ptn]; rfl)))
    refine drq_end ?_
    refine dr_one 2 HT rfl (by kernel_rfl) (by decide) (fun K hK => ?_)
    refine goes_ Tryz.func80 (by kernel_rfl) rfl #[.int .i64 ((rd_T238 a0.f5 x23).f0)] (by rfl) rfl rfl (by simp only [mpn]; rfl) ?_; refine (impl_timeOk.calls ht102001.out).mono ?_; rintro _ wt102001 ⟨rfl, HQ⟩; refine ⟨_, rfl, ?_⟩; replace HS := HS.call HQ; clear HQ; (try clear F)
    (try simp only [hpn, hpm] at HS)
    have F := HS.boxes; simp only [bxn] at F
    refine hK.out _ _ ⟨_, HS⟩ (fun HH => ?_)
    clear hK K
    refine norm_ (a' := ?_) ?_ ?_
    rotate_left
    · show Act.put _ (some 58) _ = _; simp only [Act.put, ptn]; rfl
    refine drq_of [(3, some 59), (4, some 60), (5, some 61), (6, some 62)] ?_
    repeat (first | (refine drq_pure HT (v := ?_) (a' := ?_) rfl rfl (by kernel_rfl) (fun _ _ _ h => h) (.inl ⟨by rfl, ?_⟩) ?_ ?_; rotate_left; (intro w'; go_simp; with_reducible rfl); rotate_left; (simp only [Act.put, ptn]; rfl)) | (refine drq_take HT HH (v := ?_) (a' := ?_) rfl rfl (by kernel_rfl) (fun _ _ _ h => h) (.inl ⟨by rfl, ?_⟩) ?_ ?_; rotate_left; (rintro w' ⟨rs', HS'⟩; have F := HS'.boxes; simp only [bxn, List.cons_append, List.nil_append] at F; go_simp; with_reducible rfl); rotate_left; (simp only [Act.put, ptn]; rfl)))
    refine drq_end ?_
    refine dr_one 7 HT rfl (by kernel_rfl) (by decide) (fun K hK => ?_)
    refine goes_ Tryz.func79 (by kernel_rfl) rfl #[.int .i64 ((rd_T238 a0.f5 x23).f1), .int .i64 1, .int .i64 10] (by rfl) rfl rfl (by simp only [mpn]; rfl) ?_; refine (impl_within.calls ht107001.out).mono ?_; rintro _ wt107001 ⟨rfl, HQ⟩; refine ⟨_, rfl, ?_⟩; replace HS := HS.call HQ; clear HQ; (try clear F)
    (try simp only [hpn, hpm] at HS)
    have F := HS.boxes; simp only [bxn] at F
    refine hK.out _ _ ⟨_, HS⟩ (fun HH => ?_)
    clear hK K
    refine norm_ (a' := ?_) ?_ ?_
    rotate_left
    · show Act.put _ (some 63) _ = _; simp only [Act.put, ptn]; rfl
    refine drq_of [(8, some 64), (9, some 65), (10, some 66), (11, some 67), (12, some 68), (13, some 69), (14, some 70), (15, some 71), (16, some 72), (17, some 73), (18, some 74), (19, some 75), (20, some 76), (21, some 77), (22, some 78), (23, some 79), (24, some 80), (25, some 81), (26, some 82), (27, some 83), (28, some 84), (29, some 85), (30, some 86), (31, some 87), (32, some 88), (33, some 89), (34, some 90), (35, some 91)] ?_
    repeat (first | (refine drq_pure HT (v := ?_) (a' := ?_) rfl rfl (by kernel_rfl) (fun _ _ _ h => h) (.inl ⟨by rfl, ?_⟩) ?_ ?_; rotate_left; (intro w'; go_simp; with_reducible rfl); rotate_left; (simp only [Act.put, ptn]; rfl)) | (refine drq_pure HT (v := undef) (a' := ?_) rfl rfl (by kernel_rfl) (fun _ _ _ h => h) (.inr ⟨by rfl, rfl⟩) ?_ ?_; rotate_left; (simp only [Act.put, ptn]; rfl)) | (refine drq_take HT HH (v := ?_) (a' := ?_) rfl rfl (by kernel_rfl) (fun _ _ _ h => h) (.inl ⟨by rfl, ?_⟩) ?_ ?_; rotate_left; (rintro w' ⟨rs', HS'⟩; have F := HS'.boxes; simp only [bxn, List.cons_append, List.nil_append] at F; go_simp; with_reducible rfl); rotate_left; (simp only [Act.put, ptn]; rfl)))
    refine drq_end ?_
    refine done_ (done_of HT.out (by kernel_rfl)) ?_
    (try clear F)
    have F := HS.boxes; simp only [bxn] at F
    obtain rfl := zsome H
    go_wp2
    go_ret
    exact ⟨rfl, HS.pick [] (by decide) (by rfl)⟩
   replace H := zneg c120001 H
   have c120001a := beq_eq_false_iff_ne.mpr c120001
   have c120001b := bne_iff_ne.mpr c120001
   clear c120001
   by_cases c123001 : 0 < x23
   case neg =>
    replace H := zneg c123001 H
    replace c123001 := eq_false c123001
    refine dr_start [] HS #[false, false, false, false, false, false, false, false, false, false, false, false, false, false, false, false, false, false, false, false, false, false, false, false, false, false, false, false, false, false, false, false, false, false, false, false] (by kernel_rfl) rfl rfl impl_CrlOk.tT6 (fun w39 HT HS HH => ?_)
    (try clear F)
    refine drq_of [(0, some 56), (1, some 57)] ?_
    repeat (first | (refine drq_pure HT (v := ?_) (a' := ?_) rfl rfl (by kernel_rfl) (fun _ _ _ h => h) (.inl ⟨by rfl, ?_⟩) ?_ ?_; rotate_left; (intro w'; go_simp; with_reducible rfl); rotate_left; (simp only [Act.put, ptn]; rfl)) | (refine drq_take HT HH (v := ?_) (a' := ?_) rfl rfl (by kernel_rfl) (fun _ _ _ h => h) (.inl ⟨by rfl, ?_⟩) ?_ ?_; rotate_left; (rintro w' ⟨rs', HS'⟩; have F := HS'.boxes; simp only [bxn, List.cons_append, List.nil_append] at F; go_simp; with_reducible rfl); rotate_left; (simp only [Act.put, ptn]; rfl)))
    refine drq_end ?_
    refine dr_one 2 HT rfl (by kernel_rfl) (by decide) (fun K hK => ?_)
    refine goes_ Tryz.func80 (by kernel_rfl) rfl #[.int .i64 ((rd_T238 a0.f5 x23).f0)] (by rfl) rfl rfl (by simp only [mpn]; rfl) ?_; refine (impl_timeOk.calls ht102001.out).mono ?_; rintro _ wt102001 ⟨rfl, HQ⟩; refine ⟨_, rfl, ?_⟩; replace HS := HS.call HQ; clear HQ; (try clear F)
    (try simp only [hpn, hpm] at HS)
    have F := HS.boxes; simp only [bxn] at F
    refine hK.out _ _ ⟨_, HS⟩ (fun HH => ?_)
    clear hK K
    refine norm_ (a' := ?_) ?_ ?_
    rotate_left
    · show Act.put _ (some 58) _ = _; simp only [Act.put, ptn]; rfl
    refine drq_of [(3, some 59), (4, some 60), (5, some 61), (6, some 62)] ?_
    repeat (first | (refine drq_pure HT (v := ?_) (a' := ?_) rfl rfl (by kernel_rfl) (fun _ _ _ h => h) (.inl ⟨by rfl, ?_⟩) ?_ ?_; rotate_left; (intro w'; go_simp; with_reducible rfl); rotate_left; (simp only [Act.put, ptn]; rfl)) | (refine drq_take HT HH (v := ?_) (a' := ?_) rfl rfl (by kernel_rfl) (fun _ _ _ h => h) (.inl ⟨by rfl, ?_⟩) ?_ ?_; rotate_left; (rintro w' ⟨rs', HS'⟩; have F := HS'.boxes; simp only [bxn, List.cons_append, List.nil_append] at F; go_simp; with_reducible rfl); rotate_left; (simp only [Act.put, ptn]; rfl)))
    refine drq_end ?_
    refine dr_one 7 HT rfl (by kernel_rfl) (by decide) (fun K hK => ?_)
    refine goes_ Tryz.func79 (by kernel_rfl) rfl #[.int .i64 ((rd_T238 a0.f5 x23).f1), .int .i64 1, .int .i64 10] (by rfl) rfl rfl (by simp only [mpn]; rfl) ?_; refine (impl_within.calls ht107001.out).mono ?_; rintro _ wt107001 ⟨rfl, HQ⟩; refine ⟨_, rfl, ?_⟩; replace HS := HS.call HQ; clear HQ; (try clear F)
    (try simp only [hpn, hpm] at HS)
    have F := HS.boxes; simp only [bxn] at F
    refine hK.out _ _ ⟨_, HS⟩ (fun HH => ?_)
    clear hK K
    refine norm_ (a' := ?_) ?_ ?_
    rotate_left
    · show Act.put _ (some 63) _ = _; simp only [Act.put, ptn]; rfl
    refine drq_of [(8, some 64), (9, some 65), (10, some 66), (11, some 67), (12, some 68), (13, some 69), (14, some 70), (15, some 71), (16, some 72), (17, some 73), (18, some 74), (19, some 75), (20, some 76), (21, some 77), (22, some 78), (23, some 79), (24, some 80), (25, some 81), (26, some 82), (27, some 83), (28, some 84), (29, some 85), (30, some 86), (31, some 87), (32, some 88), (33, some 89), (34, some 90), (35, some 91)] ?_
    repeat (first | (refine drq_pure HT (v := ?_) (a' := ?_) rfl rfl (by kernel_rfl) (fun _ _ _ h => h) (.inl ⟨by rfl, ?_⟩) ?_ ?_; rotate_left; (intro w'; go_simp; with_reducible rfl); rotate_left; (simp only [Act.put, ptn]; rfl)) | (refine drq_pure HT (v := undef) (a' := ?_) rfl rfl (by kernel_rfl) (fun _ _ _ h => h) (.inr ⟨by rfl, rfl⟩) ?_ ?_; rotate_left; (simp only [Act.put, ptn]; rfl)) | (refine drq_take HT HH (v := ?_) (a' := ?_) rfl rfl (by kernel_rfl) (fun _ _ _ h => h) (.inl ⟨by rfl, ?_⟩) ?_ ?_; rotate_left; (rintro w' ⟨rs', HS'⟩; have F := HS'.boxes; simp only [bxn, List.cons_append, List.nil_append] at F; go_simp; with_reducible rfl); rotate_left; (simp only [Act.put, ptn]; rfl)))
    refine drq_end ?_
    refine done_ (done_of HT.out (by kernel_rfl)) ?_
    (try clear F)
    have F := HS.boxes; simp only [bxn] at F
    go_wp2
    go_roundg k22
    case measure => have := HKk22.out; omega
    case rel => exact ⟨_, rfl, H, ⟨by have := HKk22.out; omega⟩, HS.pick [0] (by decide) (by rfl)⟩
   replace H := zpos c123001 H
   replace c123001 := eq_true c123001
   by_cases c128001 : 0 ≤ (wrap64 (x23 - 1))
   case neg => exact zno c128001 H
   replace H := zpos c128001 H
   replace c128001 := eq_true c128001
   by_cases c128002 : (wrap64 (x23 - 1)) < (a0.f5.length : Int)
   case neg => exact zno c128002 H
   replace H := zpos c128002 H
   replace c128002 := eq_true c128002
   obtain ⟨ad128999, hq128999, e128999_0, e128999_1⟩ := at_T238 gp0 (wrap64 (x23 - 1)) (of_eq_true c128001) (of_eq_true c128002); obtain rfl := Option.some.inj hq128999
   refine dr_start [] HS #[false, false, false, false, false, false, false, false, false, false, false, false, false, false, false, false, false, false, false, false, false, false, false, false, false, false, false, false, false, false, false, false, false, false, false, false] (by kernel_rfl) rfl rfl impl_CrlOk.tT6 (fun w36 HT HS HH => ?_)
   (try clear F)
   refine drq_of [(0, some 56), (1, some 57)] ?_
   repeat (first | (refine drq_pure HT (v := ?_) (a' := ?_) rfl rfl (by kernel_rfl) (fun _ _ _ h => h) (.inl ⟨by rfl, ?_⟩) ?_ ?_; rotate_left; (intro w'; go_simp; with_reducible rfl); rotate_left; (simp only [Act.put, ptn]; rfl)) | (refine drq_take HT HH (v := ?_) (a' := ?_) rfl rfl (by kernel_rfl) (fun _ _ _ h => h) (.inl ⟨by rfl, ?_⟩) ?_ ?_; rotate_left; (rintro w' ⟨rs', HS'⟩; have F := HS'.boxes; simp only [bxn, List.cons_append, List.nil_append] at F; go_simp; with_reducible rfl); rotate_left; (simp only [Act.put, ptn]; rfl)))
   refine drq_end ?_
   refine dr_one 2 HT rfl (by kernel_rfl) (by decide) (fun K hK => ?_)
   refine goes_ Tryz.func80 (by kernel_rfl) rfl #[.int .i64 ((rd_T238 a0.f5 x23).f0)] (by rfl) rfl rfl (by simp only [mpn]; rfl) ?_; refine (impl_timeOk.calls ht102001.out).mono ?_; rintro _ wt102001 ⟨rfl, HQ⟩; refine ⟨_, rfl, ?_⟩; replace HS := HS.call HQ; clear HQ; (try clear F)
   (try simp only [hpn, hpm] at HS)
   have F := HS.boxes; simp only [bxn] at F
   refine hK.out _ _ ⟨_, HS⟩ (fun HH => ?_)
   clear hK K
   refine norm_ (a' := ?_) ?_ ?_
   rotate_left
   · show Act.put _ (some 58) _ = _; simp only [Act.put, ptn]; rfl
   refine drq_of [(3, some 59), (4, some 60), (5, some 61), (6, some 62)] ?_
   repeat (first | (refine drq_pure HT (v := ?_) (a' := ?_) rfl rfl (by kernel_rfl) (fun _ _ _ h => h) (.inl ⟨by rfl, ?_⟩) ?_ ?_; rotate_left; (intro w'; go_simp; with_reducible rfl); rotate_left; (simp only [Act.put, ptn]; rfl)) | (refine drq_take HT HH (v := ?_) (a' := ?_) rfl rfl (by kernel_rfl) (fun _ _ _ h => h) (.inl ⟨by rfl, ?_⟩) ?_ ?_; rotate_left; (rintro w' ⟨rs', HS'⟩; have F := HS'.boxes; simp only [bxn, List.cons_append, List.nil_append] at F; go_simp; with_reducible rfl); rotate_left; (simp only [Act.put, ptn]; rfl)))
   refine drq_end ?_
   refine dr_one 7 HT rfl (by kernel_rfl) (by decide) (fun K hK => ?_)
   refine goes_ Tryz.func79 (by kernel_rfl) rfl #[.int .i64 ((rd_T238 a0.f5 x23).f1), .int .i64 1, .int .i64 10] (by rfl) rfl rfl (by simp only [mpn]; rfl) ?_; refine (impl_within.calls ht107001.out).mono ?_; rintro _ wt107001 ⟨rfl, HQ⟩; refine ⟨_, rfl, ?_⟩; replace HS := HS.call HQ; clear HQ; (try clear F)
   (try simp only [hpn, hpm] at HS)
   have F := HS.boxes; simp only [bxn] at F
   refine hK.out _ _ ⟨_, HS⟩ (fun HH => ?_)
   clear hK K
   refine norm_ (a' := ?_) ?_ ?_
   rotate_left
   · show Act.put _ (some 63) _ = _; simp only [Act.put, ptn]; rfl
   refine drq_of [(8, some 64), (9, some 65), (10, some 66), (11, some 67), (12, some 68), (13, some 69), (14, some 70), (15, some 71), (16, some 72), (17, some 73), (18, some 74), (19, some 75), (20, some 76), (21, some 77), (22, some 78), (23, some 79), (24, some 80), (25, some 81), (26, some 82), (27, some 83), (28, some 84), (29, some 85)] ?_
   repeat (first | (refine drq_pure HT (v := ?_) (a' := ?_) rfl rfl (by kernel_rfl) (fun _ _ _ h => h) (.inl ⟨by rfl, ?_⟩) ?_ ?_; rotate_left; (intro w'; go_simp; with_reducible rfl); rotate_left; (simp only [Act.put, ptn]; rfl)) | (refine drq_take HT HH (v := ?_) (a' := ?_) rfl rfl (by kernel_rfl) (fun _ _ _ h => h) (.inl ⟨by rfl, ?_⟩) ?_ ?_; rotate_left; (rintro w' ⟨rs', HS'⟩; have F := HS'.boxes; simp only [bxn, List.cons_append, List.nil_append] at F; go_simp; with_reducible rfl); rotate_left; (simp only [Act.put, ptn]; rfl)))
   refine drq_end ?_
   refine dr_take 30 (some 86) HT HH (v := ?_) (a' := ?_) rfl rfl (by kernel_rfl) (fun _ _ _ h => h) (.inl ⟨by rfl, ?_⟩) ?_ ?_
   rotate_left
   · rintro w' ⟨rs', HS'⟩; have e128999_0 := (HS'.keepc e128999_0); have e128999_1 := (HS'.keepc e128999_1); go_simp; with_reducible rfl
   rotate_left
   · simp only [Act.put, ptn]; rfl
   refine drq_of [(31, some 87), (32, some 88), (33, some 89), (34, some 90), (35, some 91)] ?_
   repeat (first | (refine drq_pure HT (v := ?_) (a' := ?_) rfl rfl (by kernel_rfl) (fun _ _ _ h => h) (.inl ⟨by rfl, ?_⟩) ?_ ?_; rotate_left; (intro w'; go_simp; with_reducible rfl); rotate_left; (simp only [Act.put, ptn]; rfl)) | (refine drq_take HT HH (v := ?_) (a' := ?_) rfl rfl (by kernel_rfl) (fun _ _ _ h => h) (.inl ⟨by rfl, ?_⟩) ?_ ?_; rotate_left; (rintro w' ⟨rs', HS'⟩; have F := HS'.boxes; simp only [bxn, List.cons_append, List.nil_append] at F; go_simp; with_reducible rfl); rotate_left; (simp only [Act.put, ptn]; rfl)))
   refine drq_end ?_
   refine done_ (done_of HT.out (by kernel_rfl)) ?_
   (try clear F)
   have F := HS.boxes; simp only [bxn] at F
   by_cases c38 : (rd_T238 a0.f5 x23).f0 ≤ (rd_T238 a0.f5 (wrap64 (x23 - 1))).f0
   case pos =>
    replace H := zpos c38 H
    replace c38 := eq_true c38
    (try simp only [c38, dcn])
    obtain rfl := zsome H
    go_wp2
    go_ret
    exact ⟨rfl, HS.pick [] (by decide) (by rfl)⟩
   replace H := zneg c38 H
   replace c38 := eq_false c38
   (try simp only [c38, dcn])
   go_wp2
   go_roundg k22
   case measure => have := HKk22.out; omega
   case rel => exact ⟨_, rfl, H, ⟨by have := HKk22.out; omega⟩, HS.pick [0] (by decide) (by rfl)⟩
end Go.Proofs.YtacocpknielofaaGreatDoor.F
