/- Functions of the program and of the law, and that their calls do what is written here. -/
import Derived.Test.YtacocpknielofaaGreatDoorZgFnExactStoreOka
namespace Go.Proofs.YtacocpknielofaaGreatDoor.F
open Go.RowKit Go.Proofs.YtacocpknielofaaGreatDoorW.PrintWords Go.Proofs.YtacocpknielofaaGreatDoorW.PrintLast Go.Proofs.YtacocpknielofaaGreatDoorW.PrintMore Go.Proofs.YtacocpknielofaaGreatDoor.Z
attribute [local go_sem] max2_int min2_int max_two min_two max_three min_three max_four min_four
set_option linter.unusedVariables false
set_option linter.unusedSimpArgs false
set_option maxRecDepth 100000
/-! ### laws_szRules: function 209 -/
def laws_szRules.f (a0 : S194) (a1 : Int) : Option (Int) := ((laws_szIntS.f a0.f1 a1).bind fun t3 => (if t3 < 0 then (some (-1)) else (some t3)))
set_option maxHeartbeats 16000000 in
theorem laws_szRules.calls {a0 : S194} {a1 : Int} {Ap0 : Option Addr} {np0 cp0 : Nat} {r : Int} {w : World} (h : laws_szRules.f a0 a1 = some r) (gp0 : (Kd.int .i64).C w Ap0 np0 a0.f1) (lp0 : np0 ≤ cp0) :
    Calls Tryz.prog 209 #[.agg #[.int .i64 a0.f0, .slice Ap0 np0 cp0, .bool a0.f2, .bool a0.f3, .int .i64 a0.f4], .int .i64 a1] w (fun e w' => e = .returned (.int .i64 r) ∧ Hp noFP w w' []) := by
 obtain rfl := C_len gp0
 have HS := Hp.start w
 have H := Aside0.mk h
 clear h
 unfold laws_szRules.f at H
 go_enter Tryz.func209, Tryz.ntmps209
 replace H := zbind H; obtain ⟨t3, ht3, H⟩ := H
 go_upto_if 10 with (first | ((with_reducible refine gate_dst (N := 2) rfl ?_); refine ev_bx HS ?_; clear HS; (try clear F); intro g2 w2 HS F) | ((with_reducible refine gate_dst (N := 8) rfl ?_); refine ev_cl HS (laws_szIntS.calls ht3.out (HS.ro gp0) lp0) Tryz.func85 ?_; clear HS; (try clear F); intro wt3 HS F))
 by_cases c5 : t3 < 0
 case pos =>
  replace H := zpos c5 H
  replace c5 := eq_true c5
  (try simp only [c5, dcn])
  obtain rfl := zsome H
  go_wp2
  go_ret
  exact HS.pk
 replace H := zneg c5 H
 replace c5 := eq_false c5
 (try simp only [c5, dcn])
 obtain rfl := zsome H
 go_wp2
 go_ret
 exact HS.pk
/-! ### laws_szPlan: function 151 -/
def laws_szPlan.f (a0 : S196) (a1 : Int) : Option (Int) := ((laws_szIntS.f a0.f1 a1).bind fun t3 => (if t3 < 0 then (some (-1)) else ((laws_szRules.f a0.f2 t3).bind fun t6 => (if t6 < 0 then (some (-1)) else (some t6)))))
set_option maxHeartbeats 16000000 in
theorem laws_szPlan.calls {a0 : S196} {a1 : Int} {Ap0 : Option Addr} {np0 cp0 : Nat} {Ap1 : Option Addr} {np1 cp1 : Nat} {r : Int} {w : World} (h : laws_szPlan.f a0 a1 = some r) (gp0 : (Kd.int .i64).C w Ap0 np0 a0.f1) (lp0 : np0 ≤ cp0) (gp1 : (Kd.int .i64).C w Ap1 np1 a0.f2.f1) (lp1 : np1 ≤ cp1) :
    Calls Tryz.prog 151 #[.agg #[.int .i64 a0.f0, .slice Ap0 np0 cp0, .int .i64 a0.f2.f0, .slice Ap1 np1 cp1, .bool a0.f2.f2, .bool a0.f2.f3, .int .i64 a0.f2.f4], .int .i64 a1] w (fun e w' => e = .returned (.int .i64 r) ∧ Hp noFP w w' []) := by
 obtain rfl := C_len gp0
 obtain rfl := C_len gp1
 have HS := Hp.start w
 have H := Aside0.mk h
 clear h
 unfold laws_szPlan.f at H
 go_enter Tryz.func151, Tryz.ntmps151
 replace H := zbind H; obtain ⟨t3, ht3, H⟩ := H
 go_upto_if 10 with (first | ((with_reducible refine gate_dst (N := 2) rfl ?_); refine ev_bx HS ?_; clear HS; (try clear F); intro g2 w2 HS F) | ((with_reducible refine gate_dst (N := 8) rfl ?_); refine ev_cl HS (laws_szIntS.calls ht3.out (HS.ro gp0) lp0) Tryz.func85 ?_; clear HS; (try clear F); intro wt3 HS F))
 by_cases c5 : t3 < 0
 case pos =>
  replace H := zpos c5 H
  replace c5 := eq_true c5
  (try simp only [c5, dcn])
  obtain rfl := zsome H
  go_wp2
  go_ret
  exact HS.pk
 replace H := zneg c5 H
 replace c5 := eq_false c5
 (try simp only [c5, dcn])
 replace H := zbind H; obtain ⟨t6, ht6, H⟩ := H
 go_upto_if 16 with (first | ((with_reducible refine gate_dst (N := 14) rfl ?_); refine ev_cl HS (laws_szRules.calls ht6.out (HS.ro gp1) lp1) Tryz.func209 ?_; clear HS; (try clear F); intro wt6 HS F))
 by_cases c8 : t6 < 0
 case pos =>
  replace H := zpos c8 H
  replace c8 := eq_true c8
  (try simp only [c8, dcn])
  obtain rfl := zsome H
  go_wp2
  go_ret
  exact HS.pk
 replace H := zneg c8 H
 replace c8 := eq_false c8
 (try simp only [c8, dcn])
 obtain rfl := zsome H
 go_wp2
 go_ret
 exact HS.pk
/-! ### laws_szPlanS: function 71 -/
def laws_szPlanS.l0 : Nat → Int → Int → (List S196) → Option (Int)
  | 0, _, _, _ => none
  | k + 1, x12, x13, a0 => (if x13 < (a0.length : Int) then (if 0 ≤ x13 then (if x13 < (a0.length : Int) then ((laws_szPlan.f (rd_T196 a0 x13) x12).bind fun t19 => (if t19 < 0 then (some (-1)) else (laws_szPlanS.l0 k t19 (wrap64 (x13 + 1)) a0))) else none) else none) else (some x12))
def laws_szPlanS.f (k : Nat) (a0 : (List S196)) (a1 : Int) : Option (Int) := (if (wrap64 (a1 - (a0.length : Int))) < 0 then (some (-1)) else (laws_szPlanS.l0 k (wrap64 (a1 - (a0.length : Int))) 0 a0))
set_option maxHeartbeats 16000000 in
theorem laws_szPlanS.calls {k : Nat} {a0 : (List S196)} {a1 : Int} {Ap0 : Option Addr} {np0 cp0 : Nat} {r : Int} {w : World} (h : laws_szPlanS.f k a0 a1 = some r) (gp0 : k196.C w Ap0 np0 a0) (lp0 : np0 ≤ cp0) :
    Calls Tryz.prog 71 #[.slice Ap0 np0 cp0, .int .i64 a1] w (fun e w' => e = .returned (.int .i64 r) ∧ Hp noFP w w' []) := by
 obtain rfl := C_len gp0
 have HS := Hp.start w
 have H := Aside0.mk h
 clear h
 unfold laws_szPlanS.f at H
 go_enter Tryz.func71, Tryz.ntmps71
 by_cases c1 : (wrap64 (a1 - (a0.length : Int))) < 0
 case pos =>
  replace H := zpos c1 H
  replace c1 := eq_true c1
  obtain rfl := zsome H
  go_wp2
  go_ret
  exact HS.pk
 replace H := zneg c1 H
 replace c1 := eq_false c1
 go_wp2
 go_loopg [1, 5] k (fun kq v_1 v_5 w' => ∃ (x12 : Int) (x13 : Int), v_1 = .int .i64 x12 ∧ v_5 = .int .i64 x13 ∧ Aside0 (laws_szPlanS.l0 kq x12 x13 a0 = some r) ∧ Aside0 (kq ≤ k) ∧ Hp noFP w w' [])
 case atStart => exact ⟨_, _, rfl, rfl, H, ⟨Nat.le_refl _⟩, HS⟩
 case round =>
  clear HS H; (try clear F)
  obtain ⟨x12, x13, rfl, rfl, H, HKk11, HS⟩ := hrel
  cases gk with
  | zero => exact absurd H.out (by simp [laws_szPlanS.l0])
  | succ k11 =>
   simp only [laws_szPlanS.l0] at H
   by_cases c15 : x13 < (a0.length : Int)
   case neg =>
    replace H := zneg c15 H
    replace c15 := eq_false c15
    obtain rfl := zsome H
    go_wp2
    go_ret
    exact HS.pk
   replace H := zpos c15 H
   replace c15 := eq_true c15
   obtain ⟨c16, H⟩ := zgo H
   obtain ⟨c17, H⟩ := zgo H
   obtain ⟨ad18, B18_1, d18_1, B18_3, d18_3, rfl, e18_0, e18_1, e18_2, e18_3, e18_4, e18_5, e18_6, m18_1, y18_1, m18_3, y18_3⟩ := at_T196 gp0 x13 (of_eq_true c16) (of_eq_true c17)
   have e18_0_18 := (HS.keepc e18_0)
   have e18_1_18 := (HS.keepc e18_1)
   have e18_2_18 := (HS.keepc e18_2)
   have e18_3_18 := (HS.keepc e18_3)
   have e18_4_18 := (HS.keepc e18_4)
   have e18_5_18 := (HS.keepc e18_5)
   have e18_6_18 := (HS.keepc e18_6)
   replace H := zbind H; obtain ⟨t19, ht19, H⟩ := H
   go_upto_if 25 with (first | ((with_reducible refine gate_dst (N := 23) rfl ?_); refine ev_cl HS (laws_szPlan.calls ht19.out (HS.ro y18_1) m18_1 (HS.ro y18_3) m18_3) Tryz.func151 ?_; clear HS; (try clear F); intro wt19 HS F))
   by_cases c21 : t19 < 0
   case pos =>
    replace H := zpos c21 H
    replace c21 := eq_true c21
    (try simp only [c21, dcn])
    obtain rfl := zsome H
    go_wp2
    go_ret
    exact HS.pk
   replace H := zneg c21 H
   replace c21 := eq_false c21
   (try simp only [c21, dcn])
   go_wp2
   go_roundg k11
   case measure => have := HKk11.out; omega
   case rel => exact ⟨_, _, rfl, rfl, H, ⟨by have := HKk11.out; omega⟩, HS.pick [] (by decide) (by rfl)⟩
/-! ### laws_szKept: function 152 -/
def laws_szKept.f (a0 : S199) (a1 : Int) : Option (Int) := (if (wrap64 (a1 - (a0.f0.size : Int))) < 0 then (some (-1)) else (if (wrap64 ((wrap64 (a1 - (a0.f0.size : Int))) - (a0.f1.size : Int))) < 0 then (some (-1)) else (some (wrap64 ((wrap64 (a1 - (a0.f0.size : Int))) - (a0.f1.size : Int))))))
set_option maxHeartbeats 16000000 in
theorem laws_szKept.calls {a0 : S199} {a1 : Int} {r : Int} {w : World} (h : laws_szKept.f a0 a1 = some r) :
    Calls Tryz.prog 152 #[.agg #[.string a0.f0, .string a0.f1, .int .i64 a0.f2], .int .i64 a1] w (fun e w' => e = .returned (.int .i64 r) ∧ Hp noFP w w' []) := by
 have HS := Hp.start w
 have H := Aside0.mk h
 clear h
 unfold laws_szKept.f at H
 go_enter Tryz.func152, Tryz.ntmps152
 go_upto_if 11 with (first | ((with_reducible refine gate_dst (N := 2) rfl ?_); refine ev_bx HS ?_; clear HS; (try clear F); intro g2 w2 HS F))
 by_cases c3 : (wrap64 (a1 - (a0.f0.size : Int))) < 0
 case pos =>
  replace H := zpos c3 H
  replace c3 := eq_true c3
  (try simp only [c3, dcn])
  obtain rfl := zsome H
  go_wp2
  go_ret
  exact HS.pk
 replace H := zneg c3 H
 replace c3 := eq_false c3
 (try simp only [c3, dcn])
 by_cases c4 : (wrap64 ((wrap64 (a1 - (a0.f0.size : Int))) - (a0.f1.size : Int))) < 0
 case pos =>
  replace H := zpos c4 H
  replace c4 := eq_true c4
  obtain rfl := zsome H
  go_wp2
  go_ret
  exact HS.pk
 replace H := zneg c4 H
 replace c4 := eq_false c4
 obtain rfl := zsome H
 go_wp2
 go_ret
 exact HS.pk
/-! ### laws_szKeptS: function 72 -/
def laws_szKeptS.l0 : Nat → Int → Int → (List S199) → Option (Int)
  | 0, _, _, _ => none
  | k + 1, x12, x13, a0 => (if x13 < (a0.length : Int) then (if 0 ≤ x13 then (if x13 < (a0.length : Int) then ((laws_szKept.f (rd_T199 a0 x13) x12).bind fun t19 => (if t19 < 0 then (some (-1)) else (laws_szKeptS.l0 k t19 (wrap64 (x13 + 1)) a0))) else none) else none) else (some x12))
def laws_szKeptS.f (k : Nat) (a0 : (List S199)) (a1 : Int) : Option (Int) := (if (wrap64 (a1 - (a0.length : Int))) < 0 then (some (-1)) else (laws_szKeptS.l0 k (wrap64 (a1 - (a0.length : Int))) 0 a0))
set_option maxHeartbeats 16000000 in
theorem laws_szKeptS.calls {k : Nat} {a0 : (List S199)} {a1 : Int} {Ap0 : Option Addr} {np0 cp0 : Nat} {r : Int} {w : World} (h : laws_szKeptS.f k a0 a1 = some r) (gp0 : k199.C w Ap0 np0 a0) (lp0 : np0 ≤ cp0) :
    Calls Tryz.prog 72 #[.slice Ap0 np0 cp0, .int .i64 a1] w (fun e w' => e = .returned (.int .i64 r) ∧ Hp noFP w w' []) := by
 obtain rfl := C_len gp0
 have HS := Hp.start w
 have H := Aside0.mk h
 clear h
 unfold laws_szKeptS.f at H
 go_enter Tryz.func72, Tryz.ntmps72
 by_cases c1 : (wrap64 (a1 - (a0.length : Int))) < 0
 case pos =>
  replace H := zpos c1 H
  replace c1 := eq_true c1
  obtain rfl := zsome H
  go_wp2
  go_ret
  exact HS.pk
 replace H := zneg c1 H
 replace c1 := eq_false c1
 go_wp2
 go_loopg [1, 5] k (fun kq v_1 v_5 w' => ∃ (x12 : Int) (x13 : Int), v_1 = .int .i64 x12 ∧ v_5 = .int .i64 x13 ∧ Aside0 (laws_szKeptS.l0 kq x12 x13 a0 = some r) ∧ Aside0 (kq ≤ k) ∧ Hp noFP w w' [])
 case atStart => exact ⟨_, _, rfl, rfl, H, ⟨Nat.le_refl _⟩, HS⟩
 case round =>
  clear HS H; (try clear F)
  obtain ⟨x12, x13, rfl, rfl, H, HKk11, HS⟩ := hrel
  cases gk with
  | zero => exact absurd H.out (by simp [laws_szKeptS.l0])
  | succ k11 =>
   simp only [laws_szKeptS.l0] at H
   by_cases c15 : x13 < (a0.length : Int)
   case neg =>
    replace H := zneg c15 H
    replace c15 := eq_false c15
    obtain rfl := zsome H
    go_wp2
    go_ret
    exact HS.pk
   replace H := zpos c15 H
   replace c15 := eq_true c15
   obtain ⟨c16, H⟩ := zgo H
   obtain ⟨c17, H⟩ := zgo H
   obtain ⟨ad18, rfl, e18_0, e18_1, e18_2⟩ := at_T199 gp0 x13 (of_eq_true c16) (of_eq_true c17)
   have e18_0_18 := (HS.keepc e18_0)
   have e18_1_18 := (HS.keepc e18_1)
   have e18_2_18 := (HS.keepc e18_2)
   replace H := zbind H; obtain ⟨t19, ht19, H⟩ := H
   go_upto_if 25 with (first | ((with_reducible refine gate_dst (N := 23) rfl ?_); refine ev_cl HS (laws_szKept.calls ht19.out) Tryz.func152 ?_; clear HS; (try clear F); intro wt19 HS F))
   by_cases c21 : t19 < 0
   case pos =>
    replace H := zpos c21 H
    replace c21 := eq_true c21
    (try simp only [c21, dcn])
    obtain rfl := zsome H
    go_wp2
    go_ret
    exact HS.pk
   replace H := zneg c21 H
   replace c21 := eq_false c21
   (try simp only [c21, dcn])
   go_wp2
   go_roundg k11
   case measure => have := HKk11.out; omega
   case rel => exact ⟨_, _, rfl, rfl, H, ⟨by have := HKk11.out; omega⟩, HS.pick [] (by decide) (by rfl)⟩
/-! ### laws_szServer: function 16 -/
def laws_szServer.f (k : Nat) (a0 : S40) (a1 : Int) : Option (Int) := ((laws_szStore.f k a0.f0 a1).bind fun t3 => (if t3 < 0 then (some (-1)) else ((laws_szPlanS.f k a0.f1 t3).bind fun t6 => (if t6 < 0 then (some (-1)) else ((laws_szKeptS.f k a0.f5 t6).bind fun t9 => (if t9 < 0 then (some (-1)) else (some t9)))))))
set_option maxHeartbeats 16000000 in
theorem laws_szServer.calls {k : Nat} {a0 : S40} {a1 : Int} {Ap0 : Option Addr} {np0 cp0 : Nat} {Ap1 : Option Addr} {np1 cp1 : Nat} {Ap2 : Option Addr} {np2 cp2 : Nat} {Ap3 : Option Addr} {np3 cp3 : Nat} {Ap4 : Option Addr} {np4 cp4 : Nat} {r : Int} {w : World} (h : laws_szServer.f k a0 a1 = some r) (gp0 : k88.C w Ap0 np0 a0.f0.f0) (lp0 : np0 ≤ cp0) (gp1 : k75.C w Ap1 np1 a0.f0.f1) (lp1 : np1 ≤ cp1) (gp2 : k178.C w Ap2 np2 a0.f0.f2) (lp2 : np2 ≤ cp2) (gp3 : k196.C w Ap3 np3 a0.f1) (lp3 : np3 ≤ cp3) (gp4 : k199.C w Ap4 np4 a0.f5) (lp4 : np4 ≤ cp4) :
    Calls Tryz.prog 16 #[.agg #[.slice Ap0 np0 cp0, .slice Ap1 np1 cp1, .slice Ap2 np2 cp2, .slice Ap3 np3 cp3, .int .i64 a0.f2, .int .i64 a0.f3, .int .i64 a0.f4, .slice Ap4 np4 cp4], .int .i64 a1] w (fun e w' => e = .returned (.int .i64 r) ∧ Hp noFP w w' []) := by
 obtain rfl := C_len gp0
 obtain rfl := C_len gp1
 obtain rfl := C_len gp2
 obtain rfl := C_len gp3
 obtain rfl := C_len gp4
 have HS := Hp.start w
 have H := Aside0.mk h
 clear h
 unfold laws_szServer.f at H
 go_enter Tryz.func16, Tryz.ntmps16
 replace H := zbind H; obtain ⟨t3, ht3, H⟩ := H
 go_upto_if 10 with (first | ((with_reducible refine gate_dst (N := 2) rfl ?_); refine ev_bx HS ?_; clear HS; (try clear F); intro g2 w2 HS F) | ((with_reducible refine gate_dst (N := 8) rfl ?_); refine ev_cl HS (laws_szStore.calls ht3.out (HS.ro gp0) lp0 (HS.ro gp1) lp1 (HS.ro gp2) lp2) Tryz.func11 ?_; clear HS; (try clear F); intro wt3 HS F))
 by_cases c5 : t3 < 0
 case pos =>
  replace H := zpos c5 H
  replace c5 := eq_true c5
  (try simp only [c5, dcn])
  obtain rfl := zsome H
  go_wp2
  go_ret
  exact HS.pk
 replace H := zneg c5 H
 replace c5 := eq_false c5
 (try simp only [c5, dcn])
 replace H := zbind H; obtain ⟨t6, ht6, H⟩ := H
 go_upto_if 16 with (first | ((with_reducible refine gate_dst (N := 14) rfl ?_); refine ev_cl HS (laws_szPlanS.calls ht6.out (HS.ro gp3) lp3) Tryz.func71 ?_; clear HS; (try clear F); intro wt6 HS F))
 by_cases c8 : t6 < 0
 case pos =>
  replace H := zpos c8 H
  replace c8 := eq_true c8
  (try simp only [c8, dcn])
  obtain rfl := zsome H
  go_wp2
  go_ret
  exact HS.pk
 replace H := zneg c8 H
 replace c8 := eq_false c8
 (try simp only [c8, dcn])
 replace H := zbind H; obtain ⟨t9, ht9, H⟩ := H
 go_upto_if 22 with (first | ((with_reducible refine gate_dst (N := 20) rfl ?_); refine ev_cl HS (laws_szKeptS.calls ht9.out (HS.ro gp4) lp4) Tryz.func72 ?_; clear HS; (try clear F); intro wt9 HS F))
 by_cases c11 : t9 < 0
 case pos =>
  replace H := zpos c11 H
  replace c11 := eq_true c11
  (try simp only [c11, dcn])
  obtain rfl := zsome H
  go_wp2
  go_ret
  exact HS.pk
 replace H := zneg c11 H
 replace c11 := eq_false c11
 (try simp only [c11, dcn])
 obtain rfl := zsome H
 go_wp2
 go_ret
 exact HS.pk
/-! ### spec_RulesOk: function 153 -/
def spec_RulesOk.f (k : Nat) (a0 : S200) : Option (Bool) := ((spec_l09Num.f a0.f0).bind fun t3 => (if t3 = true then ((spec_PoliciesOk.f k a0.f1).bind fun t6 => (if t6 = true then ((spec_l01In.f a0.f4 0 7).bind fun t9 => (some t9)) else (some false))) else (some false)))
set_option maxHeartbeats 16000000 in
theorem spec_RulesOk.calls {k : Nat} {a0 : S200} {Ap0 : Option Addr} {np0 cp0 : Nat} {r : Bool} {w : World} (h : spec_RulesOk.f k a0 = some r) (gp0 : (Kd.int .i64).C w Ap0 np0 a0.f1) (lp0 : np0 ≤ cp0) :
    Calls Tryz.prog 153 #[.agg #[.int .i64 a0.f0, .slice Ap0 np0 cp0, .bool a0.f2, .bool a0.f3, .int .i64 a0.f4]] w (fun e w' => e = .returned (.bool r) ∧ Hp noFP w w' []) := by
 obtain rfl := C_len gp0
 have HS := Hp.start w
 have H := Aside0.mk h
 clear h
 unfold spec_RulesOk.f at H
 go_enter Tryz.func153, Tryz.ntmps153
 replace H := zbind H; obtain ⟨t3, ht3, H⟩ := H
 by_cases c5 : t3 = true
 case neg =>
  replace H := zneg c5 H
  replace c5 := eq_false_of_ne_true c5
  subst c5
  obtain rfl := zsome H
  go_wp2_with (first | ((with_reducible refine gate_dst (N := 1) rfl ?_); refine ev_bx HS ?_; clear HS; (try clear F); intro g1 w1 HS F) | ((with_reducible refine gate_dst (N := 5) rfl ?_); refine ev_cl HS (spec_l09Num.calls ht3.out) Tryz.func75 ?_; clear HS; (try clear F); intro wt3 HS F))
  go_ret
  exact HS.pk
 replace H := zpos c5 H
 subst c5
 replace H := zbind H; obtain ⟨t6, ht6, H⟩ := H
 by_cases c8 : t6 = true
 case neg =>
  replace H := zneg c8 H
  replace c8 := eq_false_of_ne_true c8
  subst c8
  obtain rfl := zsome H
  go_wp2_with (first | ((with_reducible refine gate_dst (N := 1) rfl ?_); refine ev_bx HS ?_; clear HS; (try clear F); intro g1 w1 HS F) | ((with_reducible refine gate_dst (N := 5) rfl ?_); refine ev_cl HS (spec_l09Num.calls ht3.out) Tryz.func75 ?_; clear HS; (try clear F); intro wt3 HS F) | ((with_reducible refine gate_dst (N := 9) rfl ?_); refine gate_guard (by rfl) ?_; refine ev_cl HS (spec_PoliciesOk.calls ht6.out (HS.ro gp0) lp0) Tryz.func184 ?_; clear HS; (try clear F); intro wt6 HS F))
  go_ret
  exact HS.pk
 replace H := zpos c8 H
 subst c8
 replace H := zbind H; obtain ⟨t9, ht9, H⟩ := H
 obtain rfl := zsome H
 go_wp2_with (first | ((with_reducible refine gate_dst (N := 1) rfl ?_); refine ev_bx HS ?_; clear HS; (try clear F); intro g1 w1 HS F) | ((with_reducible refine gate_dst (N := 5) rfl ?_); refine ev_cl HS (spec_l09Num.calls ht3.out) Tryz.func75 ?_; clear HS; (try clear F); intro wt3 HS F) | ((with_reducible refine gate_dst (N := 9) rfl ?_); refine gate_guard (by rfl) ?_; refine ev_cl HS (spec_PoliciesOk.calls ht6.out (HS.ro gp0) lp0) Tryz.func184 ?_; clear HS; (try clear F); intro wt6 HS F) | ((with_reducible refine gate_dst (N := 14) rfl ?_); refine gate_guard (by rfl) ?_; refine ev_cl HS (spec_l01In.calls ht9.out) Tryz.func74 ?_; clear HS; (try clear F); intro wt9 HS F))
 go_ret
 exact HS.pk
end Go.Proofs.YtacocpknielofaaGreatDoor.F
