/- Functions of the program and of the law, and that their calls do what is written here. -/
import Derived.Test.YtacocpknielofaaGreatDoorZgFnExactShowWorldb
namespace Go.Proofs.YtacocpknielofaaGreatDoor.F
open Go.RowKit Go.Proofs.YtacocpknielofaaGreatDoorW.PrintWords Go.Proofs.YtacocpknielofaaGreatDoorW.PrintLast Go.Proofs.YtacocpknielofaaGreatDoorW.PrintMore Go.Proofs.YtacocpknielofaaGreatDoor.Z
attribute [local go_sem] max2_int min2_int max_two min_two max_three min_three max_four min_four
set_option linter.unusedVariables false
set_option linter.unusedSimpArgs false
set_option maxRecDepth 100000
/-! ### spec_ShowReply: function 163 -/
def spec_ShowReply.l0 : Nat → ByteArray → Int → S221 → Option (ByteArray)
  | 0, _, _, _ => none
  | k + 1, x21, x22, a0 => (if x22 < (a0.f6.length : Int) then (if 0 ≤ x22 then (if x22 < (a0.f6.length : Int) then (if x21.size + (⟨#[32]⟩ : ByteArray).size ≤ 9223372036854775807 then ((spec_l21Num.f k ((rd_T273 a0.f6 x22).f0)).bind fun t304001 => (if (x21 ++ (⟨#[32]⟩ : ByteArray)).size + t304001.size ≤ 9223372036854775807 then (if ((x21 ++ (⟨#[32]⟩ : ByteArray)) ++ t304001).size + (⟨#[47]⟩ : ByteArray).size ≤ 9223372036854775807 then ((spec_l21Num.f k ((rd_T273 a0.f6 x22).f1)).bind fun t309001 => (if (((x21 ++ (⟨#[32]⟩ : ByteArray)) ++ t304001) ++ (⟨#[47]⟩ : ByteArray)).size + t309001.size ≤ 9223372036854775807 then (if ((((x21 ++ (⟨#[32]⟩ : ByteArray)) ++ t304001) ++ (⟨#[47]⟩ : ByteArray)) ++ t309001).size + (⟨#[47]⟩ : ByteArray).size ≤ 9223372036854775807 then ((spec_Decimal.f k ((rd_T273 a0.f6 x22).f2.length : Int)).bind fun t315001 => (if (((((x21 ++ (⟨#[32]⟩ : ByteArray)) ++ t304001) ++ (⟨#[47]⟩ : ByteArray)) ++ t309001) ++ (⟨#[47]⟩ : ByteArray)).size + t315001.size ≤ 9223372036854775807 then (spec_ShowReply.l0 k ((((((x21 ++ (⟨#[32]⟩ : ByteArray)) ++ t304001) ++ (⟨#[47]⟩ : ByteArray)) ++ t309001) ++ (⟨#[47]⟩ : ByteArray)) ++ t315001) (wrap64 (x22 + 1)) a0) else none)) else none) else none)) else none) else none)) else none) else none) else none) else (if x21.size + (⟨#[10]⟩ : ByteArray).size ≤ 9223372036854775807 then (some (x21 ++ (⟨#[10]⟩ : ByteArray))) else none))
def spec_ShowReply.f (k : Nat) (a0 : S221) : Option (ByteArray) := ((spec_l21Num.f k a0.f1).bind fun t102001 => (if (⟨#[114, 101, 112, 108, 121, 32]⟩ : ByteArray).size + t102001.size ≤ 9223372036854775807 then (if ((⟨#[114, 101, 112, 108, 121, 32]⟩ : ByteArray) ++ t102001).size + (⟨#[32, 101, 114, 114, 111, 114, 32]⟩ : ByteArray).size ≤ 9223372036854775807 then ((spec_l21Num.f k a0.f5).bind fun t107001 => (if (((⟨#[114, 101, 112, 108, 121, 32]⟩ : ByteArray) ++ t102001) ++ (⟨#[32, 101, 114, 114, 111, 114, 32]⟩ : ByteArray)).size + t107001.size ≤ 9223372036854775807 then (spec_ShowReply.l0 k ((((⟨#[114, 101, 112, 108, 121, 32]⟩ : ByteArray) ++ t102001) ++ (⟨#[32, 101, 114, 114, 111, 114, 32]⟩ : ByteArray)) ++ t107001) 0 a0) else none)) else none) else none))
def spec_ShowReply.T1 : Bool × List (List Nat × List Nat) := (true, [([], []), ([0], [0]), ([1], [1]), ([2], [2]), ([3], [3]), ([], []), ([5], [5]), ([6, 2], [6]), ([4, 7], [4, 7]), ([8, 7, 0, 1, 2, 3, 4, 5, 6, 7, 8], [8])])
theorem spec_ShowReply.tT1 : rtab .any (opsOf Tryz.f163 1) = spec_ShowReply.T1 := by kernel_rfl
def spec_ShowReply.T6 : Bool × List (List Nat × List Nat) := (true, [([], []), ([0], [0]), ([], []), ([2], [2]), ([3], [3]), ([1, 4], [1, 4]), ([5], [5]), ([], []), ([7], [7]), ([8, 4], [8]), ([6, 9], [6, 9]), ([10], [10]), ([], []), ([12], [12]), ([13], [13]), ([14, 9], [14]), ([11, 15], [11, 15]), ([16, 15, 0, 1, 2, 3, 4, 5, 6, 7, 8, 9, 10, 11, 12, 13, 14, 15, 16], [0, 16])])
theorem spec_ShowReply.tT6 : rtab .any (opsOf Tryz.f163 6) = spec_ShowReply.T6 := by kernel_rfl
set_option maxHeartbeats 16000000 in
theorem spec_ShowReply.calls {k : Nat} {a0 : S221} {Ap0 : Option Addr} {np0 cp0 : Nat} {r : ByteArray} {w : World} (h : spec_ShowReply.f k a0 = some r) (gp0 : k273.C w Ap0 np0 a0.f6) (lp0 : np0 ≤ cp0) :
    Calls Tryz.prog 163 #[.agg #[.string a0.f0, .int .i64 a0.f1, .int .i64 a0.f2, .int .i64 a0.f3, .int .i64 a0.f4, .int .i64 a0.f5, .slice Ap0 np0 cp0, .string a0.f7]] w (fun e w' => e = .returned (.string r) ∧ Hp noFP w w' []) := by
 obtain rfl := C_len gp0
 have HS := Hp.start w
 have H := Aside0.mk h
 clear h
 unfold spec_ShowReply.f at H
 go_enter Tryz.func163, Tryz.ntmps163
 go_wp2_with (first | ((with_reducible refine gate_dst (N := 1) rfl ?_); refine ev_box rfl HS (by first | (go_simp; done) | (go_simp; rfl)) rfl ?_; clear HS; (try clear F); intro g1 w1 HS; (try simp only [hpn, hpm] at HS); have F := HS.boxes; simp only [bxn] at F))
 replace H := zbind H; obtain ⟨t102001, ht102001, H⟩ := H
 by_cases c103001 : (⟨#[114, 101, 112, 108, 121, 32]⟩ : ByteArray).size + t102001.size ≤ 9223372036854775807
 case neg => exact zno c103001 H
 replace H := zpos c103001 H
 replace c103001 := eq_true c103001
 by_cases c104001 : ((⟨#[114, 101, 112, 108, 121, 32]⟩ : ByteArray) ++ t102001).size + (⟨#[32, 101, 114, 114, 111, 114, 32]⟩ : ByteArray).size ≤ 9223372036854775807
 case neg => exact zno c104001 H
 replace H := zpos c104001 H
 replace c104001 := eq_true c104001
 replace H := zbind H; obtain ⟨t107001, ht107001, H⟩ := H
 by_cases c108001 : (((⟨#[114, 101, 112, 108, 121, 32]⟩ : ByteArray) ++ t102001) ++ (⟨#[32, 101, 114, 114, 111, 114, 32]⟩ : ByteArray)).size + t107001.size ≤ 9223372036854775807
 case neg => exact zno c108001 H
 replace H := zpos c108001 H
 replace c108001 := eq_true c108001
 refine dr_start [] HS #[false, false, false, false, false, false, false, false, false, false] (by kernel_rfl) rfl rfl spec_ShowReply.tT1 (fun w4 HT HS HH => ?_)
 (try clear F)
 refine drq_of [(0, some 6), (1, some 7), (5, some 11), (6, some 12)] ?_
 repeat (first | (refine drq_pure HT (v := ?_) (a' := ?_) rfl rfl (by kernel_rfl) (fun _ _ _ h => h) (.inl ⟨by rfl, ?_⟩) ?_ ?_; rotate_left; (intro w'; go_simp; with_reducible rfl); rotate_left; (simp only [Act.put, ptn]; rfl)) | (refine drq_take HT HH (v := ?_) (a' := ?_) rfl rfl (by kernel_rfl) (fun _ _ _ h => h) (.inl ⟨by rfl, ?_⟩) ?_ ?_; rotate_left; (rintro w' ⟨rs', HS'⟩; have F := HS'.boxes; simp only [bxn, List.cons_append, List.nil_append] at F; go_simp; with_reducible rfl); rotate_left; (simp only [Act.put, ptn]; rfl)))
 refine drq_end ?_
 refine dr_one 2 HT rfl (by kernel_rfl) (by decide) (fun K hK => ?_)
 refine goes_ Tryz.func89 (by kernel_rfl) rfl #[.int .i64 a0.f1] (by rfl) rfl rfl (by simp only [mpn]; rfl) ?_; refine (spec_l21Num.calls ht102001.out).mono ?_; rintro _ wt102001 ⟨rfl, HQ⟩; refine ⟨_, rfl, ?_⟩; replace HS := HS.call HQ; clear HQ; (try clear F)
 (try simp only [hpn, hpm] at HS)
 have F := HS.boxes; simp only [bxn] at F
 refine hK.out _ _ ⟨_, HS⟩ (fun HH => ?_)
 clear hK K
 refine norm_ (a' := ?_) ?_ ?_
 rotate_left
 · show Act.put _ (some 8) _ = _; simp only [Act.put, ptn]; rfl
 refine dr_pure 3 (some 9) HT (v := .string ((⟨#[114, 101, 112, 108, 121, 32]⟩ : ByteArray) ++ t102001)) (a' := ?_) rfl rfl (by kernel_rfl) (fun _ _ _ h => h) (.inl ⟨by rfl, fun w' => (run_cat rfl rfl rfl (of_eq_true c103001))⟩) ?_ ?_
 rotate_left
 · simp only [Act.put, ptn]; rfl
 refine dr_pure 4 (some 10) HT (v := .string (((⟨#[114, 101, 112, 108, 121, 32]⟩ : ByteArray) ++ t102001) ++ (⟨#[32, 101, 114, 114, 111, 114, 32]⟩ : ByteArray))) (a' := ?_) rfl rfl (by kernel_rfl) (fun _ _ _ h => h) (.inl ⟨by rfl, fun w' => (run_cat rfl rfl rfl (of_eq_true c104001))⟩) ?_ ?_
 rotate_left
 · simp only [Act.put, ptn]; rfl
 refine dr_one 7 HT rfl (by kernel_rfl) (by decide) (fun K hK => ?_)
 refine goes_ Tryz.func89 (by kernel_rfl) rfl #[.int .i64 a0.f5] (by rfl) rfl rfl (by simp only [mpn]; rfl) ?_; refine (spec_l21Num.calls ht107001.out).mono ?_; rintro _ wt107001 ⟨rfl, HQ⟩; refine ⟨_, rfl, ?_⟩; replace HS := HS.call HQ; clear HQ; (try clear F)
 (try simp only [hpn, hpm] at HS)
 have F := HS.boxes; simp only [bxn] at F
 refine hK.out _ _ ⟨_, HS⟩ (fun HH => ?_)
 clear hK K
 refine norm_ (a' := ?_) ?_ ?_
 rotate_left
 · show Act.put _ (some 13) _ = _; simp only [Act.put, ptn]; rfl
 refine dr_pure 8 (some 14) HT (v := .string ((((⟨#[114, 101, 112, 108, 121, 32]⟩ : ByteArray) ++ t102001) ++ (⟨#[32, 101, 114, 114, 111, 114, 32]⟩ : ByteArray)) ++ t107001)) (a' := ?_) rfl rfl (by kernel_rfl) (fun _ _ _ h => h) (.inl ⟨by rfl, fun w' => (run_cat rfl rfl rfl (of_eq_true c108001))⟩) ?_ ?_
 rotate_left
 · simp only [Act.put, ptn]; rfl
 refine drq_of [(9, some 3)] ?_
 repeat (first | (refine drq_pure HT (v := ?_) (a' := ?_) rfl rfl (by kernel_rfl) (fun _ _ _ h => h) (.inl ⟨by rfl, ?_⟩) ?_ ?_; rotate_left; (intro w'; go_simp; with_reducible rfl); rotate_left; (simp only [Act.put, ptn]; rfl)))
 refine drq_end ?_
 refine done_ (done_of HT.out (by kernel_rfl)) ?_
 (try clear F)
 have F := HS.boxes; simp only [bxn] at F
 go_wp2
 go_loopg [3, 4] k (fun kq v_3 v_4 w' => ∃ (x21 : ByteArray) (x22 : Int), v_3 = .string x21 ∧ v_4 = .int .i64 x22 ∧ Aside0 (spec_ShowReply.l0 kq x21 x22 a0 = some r) ∧ Aside0 (kq ≤ k) ∧ Hp noFP w w' [.box g1 [.string a0.f0, .int .i64 a0.f1, .int .i64 a0.f2, .int .i64 a0.f3, .int .i64 a0.f4, .int .i64 a0.f5, .slice Ap0 a0.f6.length cp0, .string a0.f7] 221])
 case atStart => exact ⟨_, _, rfl, rfl, H, ⟨Nat.le_refl _⟩, HS⟩
 case round =>
  clear HS H; (try clear F)
  obtain ⟨x21, x22, rfl, rfl, H, HKk20, HS⟩ := hrel
  have F := HS.boxes; simp only [bxn] at F
  cases gk with
  | zero => exact absurd H.out (by simp [spec_ShowReply.l0])
  | succ k20 =>
   simp only [spec_ShowReply.l0] at H
   by_cases c24 : x22 < (a0.f6.length : Int)
   case neg =>
    replace H := zneg c24 H
    replace c24 := eq_false c24
    by_cases c35 : x21.size + (⟨#[10]⟩ : ByteArray).size ≤ 9223372036854775807
    case neg => exact zno c35 H
    replace H := zpos c35 H
    replace c35 := eq_true c35
    obtain rfl := zsome H
    go_wp2_with (first | ((with_reducible refine gate_dst (N := 45) rfl ?_); refine ev_val rfl (run_cat rfl rfl rfl (of_eq_true c35)) ?_))
    go_ret
    exact ⟨rfl, HS.pick [] (by decide) (by rfl)⟩
   replace H := zpos c24 H
   replace c24 := eq_true c24
   by_cases c25 : 0 ≤ x22
   case neg => exact zno c25 H
   replace H := zpos c25 H
   replace c25 := eq_true c25
   by_cases c26 : x22 < (a0.f6.length : Int)
   case neg => exact zno c26 H
   replace H := zpos c26 H
   replace c26 := eq_true c26
   obtain ⟨ad27, B27_2, d27_2, B27_3, d27_3, rfl, e27_0, e27_1, e27_2, e27_3, m27_2, y27_2, m27_3, y27_3⟩ := at_T273 gp0 x22 (of_eq_true c25) (of_eq_true c26)
   have e27_0_27 := (HS.keepc e27_0)
   have e27_1_27 := (HS.keepc e27_1)
   have e27_2_27 := (HS.keepc e27_2)
   have e27_3_27 := (HS.keepc e27_3)
   go_wp2_with (first | ((with_reducible refine gate_dst (N := 5) rfl ?_); refine ev_box rfl HS (by first | (go_simp; done) | (go_simp; rfl)) rfl ?_; clear HS; (try clear F); intro g5 w5 HS; (try simp only [hpn, hpm] at HS); have F := HS.boxes; simp only [bxn] at F) | ((with_reducible refine gate_store (p := 5) rfl ?_); refine ev_store rfl 1 0 HS (seg := [.int .i64 ((rd_T273 a0.f6 x22).f0), .int .i64 ((rd_T273 a0.f6 x22).f1), .slice B27_2 (rd_T273 a0.f6 x22).f2.length d27_2, .slice B27_3 (rd_T273 a0.f6 x22).f3.length d27_3]) rfl rfl rfl rfl rfl rfl (by kernel_rfl) (by simp [wrt]) (by simp [Value.oneCell']) ?_; clear HS; (try clear F); intro w30 HS; (try simp only [hpn, hpm] at HS); have F := HS.boxes; simp only [bxn] at F))
   by_cases c301001 : x21.size + (⟨#[32]⟩ : ByteArray).size ≤ 9223372036854775807
   case neg => exact zno c301001 H
   replace H := zpos c301001 H
   replace c301001 := eq_true c301001
   replace H := zbind H; obtain ⟨t304001, ht304001, H⟩ := H
   by_cases c305001 : (x21 ++ (⟨#[32]⟩ : ByteArray)).size + t304001.size ≤ 9223372036854775807
   case neg => exact zno c305001 H
   replace H := zpos c305001 H
   replace c305001 := eq_true c305001
   by_cases c306001 : ((x21 ++ (⟨#[32]⟩ : ByteArray)) ++ t304001).size + (⟨#[47]⟩ : ByteArray).size ≤ 9223372036854775807
   case neg => exact zno c306001 H
   replace H := zpos c306001 H
   replace c306001 := eq_true c306001
   replace H := zbind H; obtain ⟨t309001, ht309001, H⟩ := H
   by_cases c310001 : (((x21 ++ (⟨#[32]⟩ : ByteArray)) ++ t304001) ++ (⟨#[47]⟩ : ByteArray)).size + t309001.size ≤ 9223372036854775807
   case neg => exact zno c310001 H
   replace H := zpos c310001 H
   replace c310001 := eq_true c310001
   by_cases c311001 : ((((x21 ++ (⟨#[32]⟩ : ByteArray)) ++ t304001) ++ (⟨#[47]⟩ : ByteArray)) ++ t309001).size + (⟨#[47]⟩ : ByteArray).size ≤ 9223372036854775807
   case neg => exact zno c311001 H
   replace H := zpos c311001 H
   replace c311001 := eq_true c311001
   replace H := zbind H; obtain ⟨t315001, ht315001, H⟩ := H
   by_cases c316001 : (((((x21 ++ (⟨#[32]⟩ : ByteArray)) ++ t304001) ++ (⟨#[47]⟩ : ByteArray)) ++ t309001) ++ (⟨#[47]⟩ : ByteArray)).size + t315001.size ≤ 9223372036854775807
   case neg => exact zno c316001 H
   replace H := zpos c316001 H
   replace c316001 := eq_true c316001
   refine dr_start [] HS #[false, false, false, false, false, false, false, false, false, false, false, false, false, false, false, false, false, false] (by kernel_rfl) rfl rfl spec_ShowReply.tT6 (fun w33 HT HS HH => ?_)
   (try clear F)
   refine drq_of [(0, some 27)] ?_
   repeat (first | (refine drq_pure HT (v := ?_) (a' := ?_) rfl rfl (by kernel_rfl) (fun _ _ _ h => h) (.inl ⟨by rfl, ?_⟩) ?_ ?_; rotate_left; (intro w'; go_simp; with_reducible rfl); rotate_left; (simp only [Act.put, ptn]; rfl)))
   refine drq_end ?_
   refine dr_pure 1 (some 28) HT (v := .string (x21 ++ (⟨#[32]⟩ : ByteArray))) (a' := ?_) rfl rfl (by kernel_rfl) (fun _ _ _ h => h) (.inl ⟨by rfl, fun w' => (run_cat rfl rfl rfl (of_eq_true c301001))⟩) ?_ ?_
   rotate_left
   · simp only [Act.put, ptn]; rfl
   refine drq_of [(2, some 29), (3, some 30), (7, some 34), (8, some 35), (12, some 39), (13, some 40), (14, some 41)] ?_
   repeat (first | (refine drq_pure HT (v := ?_) (a' := ?_) rfl rfl (by kernel_rfl) (fun _ _ _ h => h) (.inl ⟨by rfl, ?_⟩) ?_ ?_; rotate_left; (intro w'; go_simp; with_reducible rfl); rotate_left; (simp only [Act.put, ptn]; rfl)) | (refine drq_take HT HH (v := ?_) (a' := ?_) rfl rfl (by kernel_rfl) (fun _ _ _ h => h) (.inl ⟨by rfl, ?_⟩) ?_ ?_; rotate_left; (rintro w' ⟨rs', HS'⟩; have F := HS'.boxes; simp only [bxn, List.cons_append, List.nil_append] at F; go_simp; with_reducible rfl); rotate_left; (simp only [Act.put, ptn]; rfl)))
   refine drq_end ?_
   refine dr_one 4 HT rfl (by kernel_rfl) (by decide) (fun K hK => ?_)
   refine goes_ Tryz.func89 (by kernel_rfl) rfl #[.int .i64 ((rd_T273 a0.f6 x22).f0)] (by rfl) rfl rfl (by simp only [mpn]; rfl) ?_; refine (spec_l21Num.calls ht304001.out).mono ?_; rintro _ wt304001 ⟨rfl, HQ⟩; refine ⟨_, rfl, ?_⟩; replace HS := HS.call HQ; clear HQ; (try clear F)
   (try simp only [hpn, hpm] at HS)
   have F := HS.boxes; simp only [bxn] at F
   refine hK.out _ _ ⟨_, HS⟩ (fun HH => ?_)
   clear hK K
   refine norm_ (a' := ?_) ?_ ?_
   rotate_left
   · show Act.put _ (some 31) _ = _; simp only [Act.put, ptn]; rfl
   refine dr_pure 5 (some 32) HT (v := .string ((x21 ++ (⟨#[32]⟩ : ByteArray)) ++ t304001)) (a' := ?_) rfl rfl (by kernel_rfl) (fun _ _ _ h => h) (.inl ⟨by rfl, fun w' => (run_cat rfl rfl rfl (of_eq_true c305001))⟩) ?_ ?_
   rotate_left
   · simp only [Act.put, ptn]; rfl
   refine dr_pure 6 (some 33) HT (v := .string (((x21 ++ (⟨#[32]⟩ : ByteArray)) ++ t304001) ++ (⟨#[47]⟩ : ByteArray))) (a' := ?_) rfl rfl (by kernel_rfl) (fun _ _ _ h => h) (.inl ⟨by rfl, fun w' => (run_cat rfl rfl rfl (of_eq_true c306001))⟩) ?_ ?_
   rotate_left
   · simp only [Act.put, ptn]; rfl
   refine dr_one 9 HT rfl (by kernel_rfl) (by decide) (fun K hK => ?_)
   refine goes_ Tryz.func89 (by kernel_rfl) rfl #[.int .i64 ((rd_T273 a0.f6 x22).f1)] (by rfl) rfl rfl (by simp only [mpn]; rfl) ?_; refine (spec_l21Num.calls ht309001.out).mono ?_; rintro _ wt309001 ⟨rfl, HQ⟩; refine ⟨_, rfl, ?_⟩; replace HS := HS.call HQ; clear HQ; (try clear F)
   (try simp only [hpn, hpm] at HS)
   have F := HS.boxes; simp only [bxn] at F
   refine hK.out _ _ ⟨_, HS⟩ (fun HH => ?_)
   clear hK K
   refine norm_ (a' := ?_) ?_ ?_
   rotate_left
   · show Act.put _ (some 36) _ = _; simp only [Act.put, ptn]; rfl
   refine dr_pure 10 (some 37) HT (v := .string ((((x21 ++ (⟨#[32]⟩ : ByteArray)) ++ t304001) ++ (⟨#[47]⟩ : ByteArray)) ++ t309001)) (a' := ?_) rfl rfl (by kernel_rfl) (fun _ _ _ h => h) (.inl ⟨by rfl, fun w' => (run_cat rfl rfl rfl (of_eq_true c310001))⟩) ?_ ?_
   rotate_left
   · simp only [Act.put, ptn]; rfl
   refine dr_pure 11 (some 38) HT (v := .string (((((x21 ++ (⟨#[32]⟩ : ByteArray)) ++ t304001) ++ (⟨#[47]⟩ : ByteArray)) ++ t309001) ++ (⟨#[47]⟩ : ByteArray))) (a' := ?_) rfl rfl (by kernel_rfl) (fun _ _ _ h => h) (.inl ⟨by rfl, fun w' => (run_cat rfl rfl rfl (of_eq_true c311001))⟩) ?_ ?_
   rotate_left
   · simp only [Act.put, ptn]; rfl
   refine dr_one 15 HT rfl (by kernel_rfl) (by decide) (fun K hK => ?_)
   refine goes_ Tryz.func90 (by kernel_rfl) rfl #[.int .i64 ((rd_T273 a0.f6 x22).f2.length : Int)] (by rfl) rfl rfl (by simp only [mpn]; rfl) ?_; refine (spec_Decimal.calls ht315001.out).mono ?_; rintro _ wt315001 ⟨rfl, HQ⟩; refine ⟨_, rfl, ?_⟩; replace HS := HS.call HQ; clear HQ; (try clear F)
   (try simp only [hpn, hpm] at HS)
   have F := HS.boxes; simp only [bxn] at F
   refine hK.out _ _ ⟨_, HS⟩ (fun HH => ?_)
   clear hK K
   refine norm_ (a' := ?_) ?_ ?_
   rotate_left
   · show Act.put _ (some 42) _ = _; simp only [Act.put, ptn]; rfl
   refine dr_pure 16 (some 43) HT (v := .string ((((((x21 ++ (⟨#[32]⟩ : ByteArray)) ++ t304001) ++ (⟨#[47]⟩ : ByteArray)) ++ t309001) ++ (⟨#[47]⟩ : ByteArray)) ++ t315001)) (a' := ?_) rfl rfl (by kernel_rfl) (fun _ _ _ h => h) (.inl ⟨by rfl, fun w' => (run_cat rfl rfl rfl (of_eq_true c316001))⟩) ?_ ?_
   rotate_left
   · simp only [Act.put, ptn]; rfl
   refine drq_of [(17, some 3)] ?_
   repeat (first | (refine drq_pure HT (v := ?_) (a' := ?_) rfl rfl (by kernel_rfl) (fun _ _ _ h => h) (.inl ⟨by rfl, ?_⟩) ?_ ?_; rotate_left; (intro w'; go_simp; with_reducible rfl); rotate_left; (simp only [Act.put, ptn]; rfl)))
   refine drq_end ?_
   refine done_ (done_of HT.out (by kernel_rfl)) ?_
   (try clear F)
   have F := HS.boxes; simp only [bxn] at F
   go_wp2
   go_roundg k20
   case measure => have := HKk20.out; omega
   case rel => exact ⟨_, _, rfl, rfl, H, ⟨by have := HKk20.out; omega⟩, HS.pick [0] (by decide) (by rfl)⟩
/-! ### spec_ShowClient: function 88 -/
def spec_ShowClient.l0 : Nat → ByteArray → Int → S65 → Option (ByteArray)
  | 0, _, _, _ => none
  | k + 1, x13, x14, a0 => (if x14 < (a0.f3.length : Int) then (if 0 ≤ x14 then (if x14 < (a0.f3.length : Int) then ((spec_ShowReply.f k (⟨(rd_T223 a0.f3 x14).f1.f0, (rd_T223 a0.f3 x14).f1.f1, (rd_T223 a0.f3 x14).f1.f2, (rd_T223 a0.f3 x14).f1.f3, (rd_T223 a0.f3 x14).f1.f4, (rd_T223 a0.f3 x14).f1.f5, (rd_T223 a0.f3 x14).f1.f6, (rd_T223 a0.f3 x14).f1.f7⟩ : S221)).bind fun t20 => (if x13.size + t20.size ≤ 9223372036854775807 then (spec_ShowClient.l0 k (x13 ++ t20) (wrap64 (x14 + 1)) a0) else none)) else none) else none) else (some x13))
def spec_ShowClient.f (k : Nat) (a0 : S65) : Option (ByteArray) := ((spec_Decimal.f k (a0.f2.length : Int)).bind fun t103001 => (if (⟨#[119, 97, 105, 116, 115, 32]⟩ : ByteArray).size + t103001.size ≤ 9223372036854775807 then (if ((⟨#[119, 97, 105, 116, 115, 32]⟩ : ByteArray) ++ t103001).size + (⟨#[32, 108, 97, 116, 101, 32]⟩ : ByteArray).size ≤ 9223372036854775807 then ((spec_Decimal.f k (a0.f4.length : Int)).bind fun t109001 => (if (((⟨#[119, 97, 105, 116, 115, 32]⟩ : ByteArray) ++ t103001) ++ (⟨#[32, 108, 97, 116, 101, 32]⟩ : ByteArray)).size + t109001.size ≤ 9223372036854775807 then (if ((((⟨#[119, 97, 105, 116, 115, 32]⟩ : ByteArray) ++ t103001) ++ (⟨#[32, 108, 97, 116, 101, 32]⟩ : ByteArray)) ++ t109001).size + (⟨#[10]⟩ : ByteArray).size ≤ 9223372036854775807 then (spec_ShowClient.l0 k (((((⟨#[119, 97, 105, 116, 115, 32]⟩ : ByteArray) ++ t103001) ++ (⟨#[32, 108, 97, 116, 101, 32]⟩ : ByteArray)) ++ t109001) ++ (⟨#[10]⟩ : ByteArray)) 0 a0) else none) else none)) else none) else none))
def spec_ShowClient.T1 : Bool × List (List Nat × List Nat) := (true, [([], []), ([0], [0]), ([1], [1]), ([2], [2]), ([3], [3]), ([4], [4]), ([], []), ([6], [6]), ([7], [7]), ([8, 3], [8]), ([5, 9], [5, 9]), ([10], [10]), ([11, 9, 0, 1, 2, 3, 4, 5, 6, 7, 8, 9, 10, 11], [11])])
theorem spec_ShowClient.tT1 : rtab .any (opsOf Tryz.f88 1) = spec_ShowClient.T1 := by kernel_rfl
set_option maxHeartbeats 16000000 in
theorem spec_ShowClient.calls {k : Nat} {a0 : S65} {Ap0 : Option Addr} {np0 cp0 : Nat} {Ap1 : Option Addr} {np1 cp1 : Nat} {Ap2 : Option Addr} {np2 cp2 : Nat} {r : ByteArray} {w : World} (h : spec_ShowClient.f k a0 = some r) (gp0 : k274.C w Ap0 np0 a0.f2) (lp0 : np0 ≤ cp0) (gp1 : k223.C w Ap1 np1 a0.f3) (lp1 : np1 ≤ cp1) (gp2 : (Kd.int .i64).C w Ap2 np2 a0.f4) (lp2 : np2 ≤ cp2) :
    Calls Tryz.prog 88 #[.agg #[.string a0.f0, .int .i64 a0.f1, .slice Ap0 np0 cp0, .slice Ap1 np1 cp1, .slice Ap2 np2 cp2]] w (fun e w' => e = .returned (.string r) ∧ Hp noFP w w' []) := by
 obtain rfl := C_len gp0
 obtain rfl := C_len gp1
 obtain rfl := C_len gp2
 have HS := Hp.start w
 have H := Aside0.mk h
 clear h
 unfold spec_ShowClient.f at H
 go_enter Tryz.func88, Tryz.ntmps88
 go_wp2_with (first | ((with_reducible refine gate_dst (N := 1) rfl ?_); refine ev_box rfl HS (by first | (go_simp; done) | (go_simp; rfl)) rfl ?_; clear HS; (try clear F); intro g1 w1 HS; (try simp only [hpn, hpm] at HS); have F := HS.boxes; simp only [bxn] at F))
 replace H := zbind H; obtain ⟨t103001, ht103001, H⟩ := H
 by_cases c104001 : (⟨#[119, 97, 105, 116, 115, 32]⟩ : ByteArray).size + t103001.size ≤ 9223372036854775807
 case neg => exact zno c104001 H
 replace H := zpos c104001 H
 replace c104001 := eq_true c104001
 by_cases c105001 : ((⟨#[119, 97, 105, 116, 115, 32]⟩ : ByteArray) ++ t103001).size + (⟨#[32, 108, 97, 116, 101, 32]⟩ : ByteArray).size ≤ 9223372036854775807
 case neg => exact zno c105001 H
 replace H := zpos c105001 H
 replace c105001 := eq_true c105001
 replace H := zbind H; obtain ⟨t109001, ht109001, H⟩ := H
 by_cases c110001 : (((⟨#[119, 97, 105, 116, 115, 32]⟩ : ByteArray) ++ t103001) ++ (⟨#[32, 108, 97, 116, 101, 32]⟩ : ByteArray)).size + t109001.size ≤ 9223372036854775807
 case neg => exact zno c110001 H
 replace H := zpos c110001 H
 replace c110001 := eq_true c110001
 by_cases c111001 : ((((⟨#[119, 97, 105, 116, 115, 32]⟩ : ByteArray) ++ t103001) ++ (⟨#[32, 108, 97, 116, 101, 32]⟩ : ByteArray)) ++ t109001).size + (⟨#[10]⟩ : ByteArray).size ≤ 9223372036854775807
 case neg => exact zno c111001 H
 replace H := zpos c111001 H
 replace c111001 := eq_true c111001
 refine dr_start [] HS #[false, false, false, false, false, false, false, false, false, false, false, false, false] (by kernel_rfl) rfl rfl spec_ShowClient.tT1 (fun w4 HT HS HH => ?_)
 (try clear F)
 refine drq_of [(0, some 5), (1, some 6), (2, some 7), (6, some 11), (7, some 12), (8, some 13)] ?_
 repeat (first | (refine drq_pure HT (v := ?_) (a' := ?_) rfl rfl (by kernel_rfl) (fun _ _ _ h => h) (.inl ⟨by rfl, ?_⟩) ?_ ?_; rotate_left; (intro w'; go_simp; with_reducible rfl); rotate_left; (simp only [Act.put, ptn]; rfl)) | (refine drq_take HT HH (v := ?_) (a' := ?_) rfl rfl (by kernel_rfl) (fun _ _ _ h => h) (.inl ⟨by rfl, ?_⟩) ?_ ?_; rotate_left; (rintro w' ⟨rs', HS'⟩; have F := HS'.boxes; simp only [bxn, List.cons_append, List.nil_append] at F; go_simp; with_reducible rfl); rotate_left; (simp only [Act.put, ptn]; rfl)))
 refine drq_end ?_
 refine dr_one 3 HT rfl (by kernel_rfl) (by decide) (fun K hK => ?_)
 refine goes_ Tryz.func90 (by kernel_rfl) rfl #[.int .i64 (a0.f2.length : Int)] (by rfl) rfl rfl (by simp only [mpn]; rfl) ?_; refine (spec_Decimal.calls ht103001.out).mono ?_; rintro _ wt103001 ⟨rfl, HQ⟩; refine ⟨_, rfl, ?_⟩; replace HS := HS.call HQ; clear HQ; (try clear F)
 (try simp only [hpn, hpm] at HS)
 have F := HS.boxes; simp only [bxn] at F
 refine hK.out _ _ ⟨_, HS⟩ (fun HH => ?_)
 clear hK K
 refine norm_ (a' := ?_) ?_ ?_
 rotate_left
 · show Act.put _ (some 8) _ = _; simp only [Act.put, ptn]; rfl
 refine dr_pure 4 (some 9) HT (v := .string ((⟨#[119, 97, 105, 116, 115, 32]⟩ : ByteArray) ++ t103001)) (a' := ?_) rfl rfl (by kernel_rfl) (fun _ _ _ h => h) (.inl ⟨by rfl, fun w' => (run_cat rfl rfl rfl (of_eq_true c104001))⟩) ?_ ?_
 rotate_left
 · simp only [Act.put, ptn]; rfl
 refine dr_pure 5 (some 10) HT (v := .string (((⟨#[119, 97, 105, 116, 115, 32]⟩ : ByteArray) ++ t103001) ++ (⟨#[32, 108, 97, 116, 101, 32]⟩ : ByteArray))) (a' := ?_) rfl rfl (by kernel_rfl) (fun _ _ _ h => h) (.inl ⟨by rfl, fun w' => (run_cat rfl rfl rfl (of_eq_true c105001))⟩) ?_ ?_
 rotate_left
 · simp only [Act.put, ptn]; rfl
 refine dr_one 9 HT rfl (by kernel_rfl) (by decide) (fun K hK => ?_)
 refine goes_ Tryz.func90 (by kernel_rfl) rfl #[.int .i64 (a0.f4.length : Int)] (by rfl) rfl rfl (by simp only [mpn]; rfl) ?_; refine (spec_Decimal.calls ht109001.out).mono ?_; rintro _ wt109001 ⟨rfl, HQ⟩; refine ⟨_, rfl, ?_⟩; replace HS := HS.call HQ; clear HQ; (try clear F)
 (try simp only [hpn, hpm] at HS)
 have F := HS.boxes; simp only [bxn] at F
 refine hK.out _ _ ⟨_, HS⟩ (fun HH => ?_)
 clear hK K
 refine norm_ (a' := ?_) ?_ ?_
 rotate_left
 · show Act.put _ (some 14) _ = _; simp only [Act.put, ptn]; rfl
 refine dr_pure 10 (some 15) HT (v := .string ((((⟨#[119, 97, 105, 116, 115, 32]⟩ : ByteArray) ++ t103001) ++ (⟨#[32, 108, 97, 116, 101, 32]⟩ : ByteArray)) ++ t109001)) (a' := ?_) rfl rfl (by kernel_rfl) (fun _ _ _ h => h) (.inl ⟨by rfl, fun w' => (run_cat rfl rfl rfl (of_eq_true c110001))⟩) ?_ ?_
 rotate_left
 · simp only [Act.put, ptn]; rfl
 refine dr_pure 11 (some 16) HT (v := .string (((((⟨#[119, 97, 105, 116, 115, 32]⟩ : ByteArray) ++ t103001) ++ (⟨#[32, 108, 97, 116, 101, 32]⟩ : ByteArray)) ++ t109001) ++ (⟨#[10]⟩ : ByteArray))) (a' := ?_) rfl rfl (by kernel_rfl) (fun _ _ _ h => h) (.inl ⟨by rfl, fun w' => (run_cat rfl rfl rfl (of_eq_true c111001))⟩) ?_ ?_
 rotate_left
 · simp only [Act.put, ptn]; rfl
 refine drq_of [(12, some 3)] ?_
 repeat (first | (refine drq_pure HT (v := ?_) (a' := ?_) rfl rfl (by kernel_rfl) (fun _ _ _ h => h) (.inl ⟨by rfl, ?_⟩) ?_ ?_; rotate_left; (intro w'; go_simp; with_reducible rfl); rotate_left; (simp only [Act.put, ptn]; rfl)))
 refine drq_end ?_
 refine done_ (done_of HT.out (by kernel_rfl)) ?_
 (try clear F)
 have F := HS.boxes; simp only [bxn] at F
 go_wp2
 go_loopg [3, 4] k (fun kq v_3 v_4 w' => ∃ (x13 : ByteArray) (x14 : Int), v_3 = .string x13 ∧ v_4 = .int .i64 x14 ∧ Aside0 (spec_ShowClient.l0 kq x13 x14 a0 = some r) ∧ Aside0 (kq ≤ k) ∧ Hp noFP w w' [.box g1 [.string a0.f0, .int .i64 a0.f1, .slice Ap0 a0.f2.length cp0, .slice Ap1 a0.f3.length cp1, .slice Ap2 a0.f4.length cp2] 65])
 case atStart => exact ⟨_, _, rfl, rfl, H, ⟨Nat.le_refl _⟩, HS⟩
 case round =>
  clear HS H; (try clear F)
  obtain ⟨x13, x14, rfl, rfl, H, HKk12, HS⟩ := hrel
  have F := HS.boxes; simp only [bxn] at F
  cases gk with
  | zero => exact absurd H.out (by simp [spec_ShowClient.l0])
  | succ k12 =>
   simp only [spec_ShowClient.l0] at H
   by_cases c16 : x14 < (a0.f3.length : Int)
   case neg =>
    replace H := zneg c16 H
    replace c16 := eq_false c16
    obtain rfl := zsome H
    go_wp2
    go_ret
    exact ⟨rfl, HS.pick [] (by decide) (by rfl)⟩
   replace H := zpos c16 H
   replace c16 := eq_true c16
   by_cases c17 : 0 ≤ x14
   case neg => exact zno c17 H
   replace H := zpos c17 H
   replace c17 := eq_true c17
   by_cases c18 : x14 < (a0.f3.length : Int)
   case neg => exact zno c18 H
   replace H := zpos c18 H
   replace c18 := eq_true c18
   obtain ⟨ad19, B19_7, d19_7, rfl, e19_0, e19_1, e19_2, e19_3, e19_4, e19_5, e19_6, e19_7, e19_8, m19_7, y19_7⟩ := at_T223 gp1 x14 (of_eq_true c17) (of_eq_true c18)
   have e19_0_19 := (HS.keepc e19_0)
   have e19_1_19 := (HS.keepc e19_1)
   have e19_2_19 := (HS.keepc e19_2)
   have e19_3_19 := (HS.keepc e19_3)
   have e19_4_19 := (HS.keepc e19_4)
   have e19_5_19 := (HS.keepc e19_5)
   have e19_6_19 := (HS.keepc e19_6)
   have e19_7_19 := (HS.keepc e19_7)
   have e19_8_19 := (HS.keepc e19_8)
   replace H := zbind H; obtain ⟨t20, ht20, H⟩ := H
   by_cases c22 : x13.size + t20.size ≤ 9223372036854775807
   case neg => exact zno c22 H
   replace H := zpos c22 H
   replace c22 := eq_true c22
   go_wp2_with (first | ((with_reducible refine gate_dst (N := 31) rfl ?_); refine ev_call rfl Tryz.func163 (by kernel_rfl) rfl #[.agg #[.string ((rd_T223 a0.f3 x14).f1.f0), .int .i64 ((rd_T223 a0.f3 x14).f1.f1), .int .i64 ((rd_T223 a0.f3 x14).f1.f2), .int .i64 ((rd_T223 a0.f3 x14).f1.f3), .int .i64 ((rd_T223 a0.f3 x14).f1.f4), .int .i64 ((rd_T223 a0.f3 x14).f1.f5), .slice B19_7 (rd_T223 a0.f3 x14).f1.f6.length d19_7, .string ((rd_T223 a0.f3 x14).f1.f7)]] rfl (by simp only [mpn]; rfl) ?_; refine (spec_ShowReply.calls ht20.out (HS.ro y19_7) m19_7).mono ?_; rintro _ wt20 ⟨rfl, HQ⟩; refine ⟨_, rfl, ?_⟩; replace HS := HS.call HQ; clear HQ; (try clear F); (try simp only [hpn, hpm] at HS); have F := HS.boxes; simp only [bxn] at F) | ((with_reducible refine gate_dst (N := 32) rfl ?_); refine ev_val rfl (run_cat rfl rfl rfl (of_eq_true c22)) ?_))
   go_roundg k12
   case measure => have := HKk12.out; omega
   case rel => exact ⟨_, _, rfl, rfl, H, ⟨by have := HKk12.out; omega⟩, HS.pick [0] (by decide) (by rfl)⟩
/-! ### spec_ShowWorld: function 22 -/
def spec_ShowWorld.f (k : Nat) (a0 : S69) : Option (ByteArray) := ((spec_ShowClient.f k a0.f1).bind fun t102001 => (if t102001.size + (⟨#[115, 101, 114, 118, 101, 114, 32]⟩ : ByteArray).size ≤ 9223372036854775807 then ((spec_l21Num.f k a0.f0.f3).bind fun t107001 => (if (t102001 ++ (⟨#[115, 101, 114, 118, 101, 114, 32]⟩ : ByteArray)).size + t107001.size ≤ 9223372036854775807 then (if ((t102001 ++ (⟨#[115, 101, 114, 118, 101, 114, 32]⟩ : ByteArray)) ++ t107001).size + (⟨#[32, 107, 110, 111, 119, 115, 32]⟩ : ByteArray).size ≤ 9223372036854775807 then ((spec_Decimal.f k (a0.f0.f0.f0.length : Int)).bind fun t115001 => (if (((t102001 ++ (⟨#[115, 101, 114, 118, 101, 114, 32]⟩ : ByteArray)) ++ t107001) ++ (⟨#[32, 107, 110, 111, 119, 115, 32]⟩ : ByteArray)).size + t115001.size ≤ 9223372036854775807 then (if ((((t102001 ++ (⟨#[115, 101, 114, 118, 101, 114, 32]⟩ : ByteArray)) ++ t107001) ++ (⟨#[32, 107, 110, 111, 119, 115, 32]⟩ : ByteArray)) ++ t115001).size + (⟨#[32, 107, 101, 101, 112, 115, 32]⟩ : ByteArray).size ≤ 9223372036854775807 then ((spec_Decimal.f k (a0.f0.f5.length : Int)).bind fun t122001 => (if (((((t102001 ++ (⟨#[115, 101, 114, 118, 101, 114, 32]⟩ : ByteArray)) ++ t107001) ++ (⟨#[32, 107, 110, 111, 119, 115, 32]⟩ : ByteArray)) ++ t115001) ++ (⟨#[32, 107, 101, 101, 112, 115, 32]⟩ : ByteArray)).size + t122001.size ≤ 9223372036854775807 then (if ((((((t102001 ++ (⟨#[115, 101, 114, 118, 101, 114, 32]⟩ : ByteArray)) ++ t107001) ++ (⟨#[32, 107, 110, 111, 119, 115, 32]⟩ : ByteArray)) ++ t115001) ++ (⟨#[32, 107, 101, 101, 112, 115, 32]⟩ : ByteArray)) ++ t122001).size + (⟨#[10]⟩ : ByteArray).size ≤ 9223372036854775807 then (some (((((((t102001 ++ (⟨#[115, 101, 114, 118, 101, 114, 32]⟩ : ByteArray)) ++ t107001) ++ (⟨#[32, 107, 110, 111, 119, 115, 32]⟩ : ByteArray)) ++ t115001) ++ (⟨#[32, 107, 101, 101, 112, 115, 32]⟩ : ByteArray)) ++ t122001) ++ (⟨#[10]⟩ : ByteArray))) else none) else none)) else none) else none)) else none) else none)) else none))
def spec_ShowWorld.T1 : Bool × List (List Nat × List Nat) := (true, [([], []), ([0], [0]), ([1], [1]), ([2], [2]), ([], []), ([4], [4]), ([5], [5]), ([6, 2], [6]), ([3, 7], [3, 7]), ([8], [8]), ([], []), ([10], [10]), ([11], [11]), ([12], [12]), ([13], [13]), ([14, 7], [14]), ([9, 15], [9, 15]), ([16], [16]), ([], []), ([18], [18]), ([19], [19]), ([20], [20]), ([21, 15], [21]), ([17, 22], [17, 22]), ([23], [23]), ([24, 22, 0, 1, 2, 3, 4, 5, 6, 7, 8, 9, 10, 11, 12, 13, 14, 15, 16, 17, 18, 19, 20, 21, 22, 23, 24], [24])])
theorem spec_ShowWorld.tT1 : rtab .any (opsOf Tryz.f22 1) = spec_ShowWorld.T1 := by kernel_rfl
set_option maxHeartbeats 16000000 in
theorem spec_ShowWorld.calls {k : Nat} {a0 : S69} {Ap0 : Option Addr} {np0 cp0 : Nat} {Ap1 : Option Addr} {np1 cp1 : Nat} {Ap2 : Option Addr} {np2 cp2 : Nat} {Ap3 : Option Addr} {np3 cp3 : Nat} {Ap4 : Option Addr} {np4 cp4 : Nat} {Ap5 : Option Addr} {np5 cp5 : Nat} {Ap6 : Option Addr} {np6 cp6 : Nat} {Ap7 : Option Addr} {np7 cp7 : Nat} {Ap8 : Option Addr} {np8 cp8 : Nat} {Ap9 : Option Addr} {np9 cp9 : Nat} {Ap10 : Option Addr} {np10 cp10 : Nat} {Ap11 : Option Addr} {np11 cp11 : Nat} {Ap12 : Option Addr} {np12 cp12 : Nat} {Ap13 : Option Addr} {np13 cp13 : Nat} {r : ByteArray} {w : World} (h : spec_ShowWorld.f k a0 = some r) (gp0 : k91.C w Ap0 np0 a0.f0.f0.f0) (lp0 : np0 ≤ cp0) (gp1 : k81.C w Ap1 np1 a0.f0.f0.f1) (lp1 : np1 ≤ cp1) (gp2 : k115.C w Ap2 np2 a0.f0.f0.f2) (lp2 : np2 ≤ cp2) (gp3 : k202.C w Ap3 np3 a0.f0.f1) (lp3 : np3 ≤ cp3) (gp4 : k205.C w Ap4 np4 a0.f0.f5) (lp4 : np4 ≤ cp4) (gp5 : k274.C w Ap5 np5 a0.f1.f2) (lp5 : np5 ≤ cp5) (gp6 : k223.C w Ap6 np6 a0.f1.f3) (lp6 : np6 ≤ cp6) (gp7 : (Kd.int .i64).C w Ap7 np7 a0.f1.f4) (lp7 : np7 ≤ cp7) (gp8 : k91.C w Ap8 np8 a0.f2) (lp8 : np8 ≤ cp8) (gp9 : k228.C w Ap9 np9 a0.f3) (lp9 : np9 ≤ cp9) (gp10 : (Kd.int .i64).C w Ap10 np10 a0.f4) (lp10 : np10 ≤ cp10) (gp11 : k230.C w Ap11 np11 a0.f5) (lp11 : np11 ≤ cp11) (gp12 : Kd.string.C w Ap12 np12 a0.f6) (lp12 : np12 ≤ cp12) (gp13 : Kd.string.C w Ap13 np13 a0.f7) (lp13 : np13 ≤ cp13) :
    Calls Tryz.prog 22 #[.agg #[.slice Ap0 np0 cp0, .slice Ap1 np1 cp1, .slice Ap2 np2 cp2, .slice Ap3 np3 cp3, .int .i64 a0.f0.f2, .int .i64 a0.f0.f3, .int .i64 a0.f0.f4, .slice Ap4 np4 cp4, .string a0.f1.f0, .int .i64 a0.f1.f1, .slice Ap5 np5 cp5, .slice Ap6 np6 cp6, .slice Ap7 np7 cp7, .slice Ap8 np8 cp8, .slice Ap9 np9 cp9, .slice Ap10 np10 cp10, .slice Ap11 np11 cp11, .slice Ap12 np12 cp12, .slice Ap13 np13 cp13]] w (fun e w' => e = .returned (.string r) ∧ Hp noFP w w' []) := by
 obtain rfl := C_len gp0
 obtain rfl := C_len gp1
 obtain rfl := C_len gp2
 obtain rfl := C_len gp3
 obtain rfl := C_len gp4
 obtain rfl := C_len gp5
 obtain rfl := C_len gp6
 obtain rfl := C_len gp7
 obtain rfl := C_len gp8
 obtain rfl := C_len gp9
 obtain rfl := C_len gp10
 obtain rfl := C_len gp11
 obtain rfl := C_len gp12
 obtain rfl := C_len gp13
 have HS := Hp.start w
 have H := Aside0.mk h
 clear h
 unfold spec_ShowWorld.f at H
 go_enter Tryz.func22, Tryz.ntmps22
 go_wp2_with (first | ((with_reducible refine gate_dst (N := 1) rfl ?_); refine ev_box rfl HS (by first | (go_simp; done) | (go_simp; rfl)) rfl ?_; clear HS; (try clear F); intro g1 w1 HS; (try simp only [hpn, hpm] at HS); have F := HS.boxes; simp only [bxn] at F))
 replace H := zbind H; obtain ⟨t102001, ht102001, H⟩ := H
 by_cases c103001 : t102001.size + (⟨#[115, 101, 114, 118, 101, 114, 32]⟩ : ByteArray).size ≤ 9223372036854775807
 case neg => exact zno c103001 H
 replace H := zpos c103001 H
 replace c103001 := eq_true c103001
 replace H := zbind H; obtain ⟨t107001, ht107001, H⟩ := H
 by_cases c108001 : (t102001 ++ (⟨#[115, 101, 114, 118, 101, 114, 32]⟩ : ByteArray)).size + t107001.size ≤ 9223372036854775807
 case neg => exact zno c108001 H
 replace H := zpos c108001 H
 replace c108001 := eq_true c108001
 by_cases c109001 : ((t102001 ++ (⟨#[115, 101, 114, 118, 101, 114, 32]⟩ : ByteArray)) ++ t107001).size + (⟨#[32, 107, 110, 111, 119, 115, 32]⟩ : ByteArray).size ≤ 9223372036854775807
 case neg => exact zno c109001 H
 replace H := zpos c109001 H
 replace c109001 := eq_true c109001
 replace H := zbind H; obtain ⟨t115001, ht115001, H⟩ := H
 by_cases c116001 : (((t102001 ++ (⟨#[115, 101, 114, 118, 101, 114, 32]⟩ : ByteArray)) ++ t107001) ++ (⟨#[32, 107, 110, 111, 119, 115, 32]⟩ : ByteArray)).size + t115001.size ≤ 9223372036854775807
 case neg => exact zno c116001 H
 replace H := zpos c116001 H
 replace c116001 := eq_true c116001
 by_cases c117001 : ((((t102001 ++ (⟨#[115, 101, 114, 118, 101, 114, 32]⟩ : ByteArray)) ++ t107001) ++ (⟨#[32, 107, 110, 111, 119, 115, 32]⟩ : ByteArray)) ++ t115001).size + (⟨#[32, 107, 101, 101, 112, 115, 32]⟩ : ByteArray).size ≤ 9223372036854775807
 case neg => exact zno c117001 H
 replace H := zpos c117001 H
 replace c117001 := eq_true c117001
 replace H := zbind H; obtain ⟨t122001, ht122001, H⟩ := H
 by_cases c123001 : (((((t102001 ++ (⟨#[115, 101, 114, 118, 101, 114, 32]⟩ : ByteArray)) ++ t107001) ++ (⟨#[32, 107, 110, 111, 119, 115, 32]⟩ : ByteArray)) ++ t115001) ++ (⟨#[32, 107, 101, 101, 112, 115, 32]⟩ : ByteArray)).size + t122001.size ≤ 9223372036854775807
 case neg => exact zno c123001 H
 replace H := zpos c123001 H
 replace c123001 := eq_true c123001
 by_cases c124001 : ((((((t102001 ++ (⟨#[115, 101, 114, 118, 101, 114, 32]⟩ : ByteArray)) ++ t107001) ++ (⟨#[32, 107, 110, 111, 119, 115, 32]⟩ : ByteArray)) ++ t115001) ++ (⟨#[32, 107, 101, 101, 112, 115, 32]⟩ : ByteArray)) ++ t122001).size + (⟨#[10]⟩ : ByteArray).size ≤ 9223372036854775807
 case neg => exact zno c124001 H
 replace H := zpos c124001 H
 replace c124001 := eq_true c124001
 refine dr_start [] HS #[false, false, false, false, false, false, false, false, false, false, false, false, false, false, false, false, false, false, false, false, false, false, false, false, false, false] (by kernel_rfl) rfl rfl spec_ShowWorld.tT1 (fun w4 HT HS HH => ?_)
 (try clear F)
 refine drq_of [(0, some 3), (1, some 4), (4, some 7), (5, some 8), (6, some 9), (10, some 13), (11, some 14), (12, some 15), (13, some 16), (14, some 17), (18, some 21), (19, some 22), (20, some 23), (21, some 24)] ?_
 repeat (first | (refine drq_pure HT (v := ?_) (a' := ?_) rfl rfl (by kernel_rfl) (fun _ _ _ h => h) (.inl ⟨by rfl, ?_⟩) ?_ ?_; rotate_left; (intro w'; go_simp; with_reducible rfl); rotate_left; (simp only [Act.put, ptn]; rfl)) | (refine drq_take HT HH (v := ?_) (a' := ?_) rfl rfl (by kernel_rfl) (fun _ _ _ h => h) (.inl ⟨by rfl, ?_⟩) ?_ ?_; rotate_left; (rintro w' ⟨rs', HS'⟩; have F := HS'.boxes; simp only [bxn, List.cons_append, List.nil_append] at F; go_simp; with_reducible rfl); rotate_left; (simp only [Act.put, ptn]; rfl)))
 refine drq_end ?_
 refine dr_one 2 HT rfl (by kernel_rfl) (by decide) (fun K hK => ?_)
 refine goes_ Tryz.func88 (by kernel_rfl) rfl #[.agg #[.string a0.f1.f0, .int .i64 a0.f1.f1, .slice Ap5 a0.f1.f2.length cp5, .slice Ap6 a0.f1.f3.length cp6, .slice Ap7 a0.f1.f4.length cp7]] (by rfl) rfl rfl (by simp only [mpn]; rfl) ?_; refine (spec_ShowClient.calls ht102001.out (HS.ro gp5) lp5 (HS.ro gp6) lp6 (HS.ro gp7) lp7).mono ?_; rintro _ wt102001 ⟨rfl, HQ⟩; refine ⟨_, rfl, ?_⟩; replace HS := HS.call HQ; clear HQ; (try clear F)
 (try simp only [hpn, hpm] at HS)
 have F := HS.boxes; simp only [bxn] at F
 refine hK.out _ _ ⟨_, HS⟩ (fun HH => ?_)
 clear hK K
 refine norm_ (a' := ?_) ?_ ?_
 rotate_left
 · show Act.put _ (some 5) _ = _; simp only [Act.put, ptn]; rfl
 refine dr_pure 3 (some 6) HT (v := .string (t102001 ++ (⟨#[115, 101, 114, 118, 101, 114, 32]⟩ : ByteArray))) (a' := ?_) rfl rfl (by kernel_rfl) (fun _ _ _ h => h) (.inl ⟨by rfl, fun w' => (run_cat rfl rfl rfl (of_eq_true c103001))⟩) ?_ ?_
 rotate_left
 · simp only [Act.put, ptn]; rfl
 refine dr_one 7 HT rfl (by kernel_rfl) (by decide) (fun K hK => ?_)
 refine goes_ Tryz.func89 (by kernel_rfl) rfl #[.int .i64 a0.f0.f3] (by rfl) rfl rfl (by simp only [mpn]; rfl) ?_; refine (spec_l21Num.calls ht107001.out).mono ?_; rintro _ wt107001 ⟨rfl, HQ⟩; refine ⟨_, rfl, ?_⟩; replace HS := HS.call HQ; clear HQ; (try clear F)
 (try simp only [hpn, hpm] at HS)
 have F := HS.boxes; simp only [bxn] at F
 refine hK.out _ _ ⟨_, HS⟩ (fun HH => ?_)
 clear hK K
 refine norm_ (a' := ?_) ?_ ?_
 rotate_left
 · show Act.put _ (some 10) _ = _; simp only [Act.put, ptn]; rfl
 refine dr_pure 8 (some 11) HT (v := .string ((t102001 ++ (⟨#[115, 101, 114, 118, 101, 114, 32]⟩ : ByteArray)) ++ t107001)) (a' := ?_) rfl rfl (by kernel_rfl) (fun _ _ _ h => h) (.inl ⟨by rfl, fun w' => (run_cat rfl rfl rfl (of_eq_true c108001))⟩) ?_ ?_
 rotate_left
 · simp only [Act.put, ptn]; rfl
 refine dr_pure 9 (some 12) HT (v := .string (((t102001 ++ (⟨#[115, 101, 114, 118, 101, 114, 32]⟩ : ByteArray)) ++ t107001) ++ (⟨#[32, 107, 110, 111, 119, 115, 32]⟩ : ByteArray))) (a' := ?_) rfl rfl (by kernel_rfl) (fun _ _ _ h => h) (.inl ⟨by rfl, fun w' => (run_cat rfl rfl rfl (of_eq_true c109001))⟩) ?_ ?_
 rotate_left
 · simp only [Act.put, ptn]; rfl
 refine dr_one 15 HT rfl (by kernel_rfl) (by decide) (fun K hK => ?_)
 refine goes_ Tryz.func90 (by kernel_rfl) rfl #[.int .i64 (a0.f0.f0.f0.length : Int)] (by rfl) rfl rfl (by simp only [mpn]; rfl) ?_; refine (spec_Decimal.calls ht115001.out).mono ?_; rintro _ wt115001 ⟨rfl, HQ⟩; refine ⟨_, rfl, ?_⟩; replace HS := HS.call HQ; clear HQ; (try clear F)
 (try simp only [hpn, hpm] at HS)
 have F := HS.boxes; simp only [bxn] at F
 refine hK.out _ _ ⟨_, HS⟩ (fun HH => ?_)
 clear hK K
 refine norm_ (a' := ?_) ?_ ?_
 rotate_left
 · show Act.put _ (some 18) _ = _; simp only [Act.put, ptn]; rfl
 refine dr_pure 16 (some 19) HT (v := .string ((((t102001 ++ (⟨#[115, 101, 114, 118, 101, 114, 32]⟩ : ByteArray)) ++ t107001) ++ (⟨#[32, 107, 110, 111, 119, 115, 32]⟩ : ByteArray)) ++ t115001)) (a' := ?_) rfl rfl (by kernel_rfl) (fun _ _ _ h => h) (.inl ⟨by rfl, fun w' => (run_cat rfl rfl rfl (of_eq_true c116001))⟩) ?_ ?_
 rotate_left
 · simp only [Act.put, ptn]; rfl
 refine dr_pure 17 (some 20) HT (v := .string (((((t102001 ++ (⟨#[115, 101, 114, 118, 101, 114, 32]⟩ : ByteArray)) ++ t107001) ++ (⟨#[32, 107, 110, 111, 119, 115, 32]⟩ : ByteArray)) ++ t115001) ++ (⟨#[32, 107, 101, 101, 112, 115, 32]⟩ : ByteArray))) (a' := ?_) rfl rfl (by kernel_rfl) (fun _ _ _ h => h) (.inl ⟨by rfl, fun w' => (run_cat rfl rfl rfl (of_eq_true c117001))⟩) ?_ ?_
 rotate_left
 · simp only [Act.put, ptn]; rfl
 refine dr_one 22 HT rfl (by kernel_rfl) (by decide) (fun K hK => ?_)
 refine goes_ Tryz.func90 (by kernel_rfl) rfl #[.int .i64 (a0.f0.f5.length : Int)] (by rfl) rfl rfl (by simp only [mpn]; rfl) ?_; refine (spec_Decimal.calls ht122001.out).mono ?_; rintro _ wt122001 ⟨rfl, HQ⟩; refine ⟨_, rfl, ?_⟩; replace HS := HS.call HQ; clear HQ; (try clear F)
 (try simp only [hpn, hpm] at HS)
 have F := HS.boxes; simp only [bxn] at F
 refine hK.out _ _ ⟨_, HS⟩ (fun HH => ?_)
 clear hK K
 refine norm_ (a' := ?_) ?_ ?_
 rotate_left
 · show Act.put _ (some 25) _ = _; simp only [Act.put, ptn]; rfl
 refine dr_pure 23 (some 26) HT (v := .string ((((((t102001 ++ (⟨#[115, 101, 114, 118, 101, 114, 32]⟩ : ByteArray)) ++ t107001) ++ (⟨#[32, 107, 110, 111, 119, 115, 32]⟩ : ByteArray)) ++ t115001) ++ (⟨#[32, 107, 101, 101, 112, 115, 32]⟩ : ByteArray)) ++ t122001)) (a' := ?_) rfl rfl (by kernel_rfl) (fun _ _ _ h => h) (.inl ⟨by rfl, fun w' => (run_cat rfl rfl rfl (of_eq_true c123001))⟩) ?_ ?_
 rotate_left
 · simp only [Act.put, ptn]; rfl
 refine dr_pure 24 (some 27) HT (v := .string (((((((t102001 ++ (⟨#[115, 101, 114, 118, 101, 114, 32]⟩ : ByteArray)) ++ t107001) ++ (⟨#[32, 107, 110, 111, 119, 115, 32]⟩ : ByteArray)) ++ t115001) ++ (⟨#[32, 107, 101, 101, 112, 115, 32]⟩ : ByteArray)) ++ t122001) ++ (⟨#[10]⟩ : ByteArray))) (a' := ?_) rfl rfl (by kernel_rfl) (fun _ _ _ h => h) (.inl ⟨by rfl, fun w' => (run_cat rfl rfl rfl (of_eq_true c124001))⟩) ?_ ?_
 rotate_left
 · simp only [Act.put, ptn]; rfl
 refine drq_of [(25, some 2)] ?_
 repeat (first | (refine drq_pure HT (v := ?_) (a' := ?_) rfl rfl (by kernel_rfl) (fun _ _ _ h => h) (.inl ⟨by rfl, ?_⟩) ?_ ?_; rotate_left; (intro w'; go_simp; with_reducible rfl); rotate_left; (simp only [Act.put, ptn]; rfl)))
 refine drq_end ?_
 refine done_ (done_of HT.out (by kernel_rfl)) ?_
 (try clear F)
 have F := HS.boxes; simp only [bxn] at F
 obtain rfl := zsome H
 go_wp2
 go_ret
 exact ⟨rfl, HS.pick [] (by decide) (by rfl)⟩
/-! ### laws_toIntS: function 93 -/
def laws_toIntS.l0 : Nat → (List Int) → Int → (List Int) → Option ((List Int))
  | 0, _, _, _ => none
  | k + 1, l18, x20, a0 => (if x20 < (a0.length : Int) then (if 0 ≤ x20 then (if x20 < (a0.length : Int) then (laws_toIntS.l0 k (l18.set (x20).toNat (rd a0 x20)) (wrap64 (x20 + 1)) a0) else none) else none) else (some l18))
def laws_toIntS.f (k : Nat) (a0 : (List Int)) : Option ((List Int)) := (if 0 ≤ (a0.length : Int) then (if ((a0.length : Int)).toNat ≤ 35184372088832 then (laws_toIntS.l0 k (List.replicate a0.length (0 : Int)) 0 a0) else none) else none)
set_option maxHeartbeats 16000000 in
theorem laws_toIntS.calls {k : Nat} {a0 : (List Int)} {Ap0 : Option Addr} {np0 cp0 : Nat} {r : (List Int)} {w : World} (h : laws_toIntS.f k a0 = some r) (gp0 : (Kd.int .i64).C w Ap0 np0 a0) (lp0 : np0 ≤ cp0) :
    Calls Tryz.prog 93 #[.slice Ap0 np0 cp0] w (fun e w' => ∃ v0_ : Value, e = .returned (v0_) ∧ Hp noFP w w' [.own (Zd.slice 3 (Zd.int .i64)) r [v0_]]) := by
 obtain rfl := C_len gp0
 have HS := Hp.start w
 have H := Aside0.mk h
 clear h
 unfold laws_toIntS.f at H
 go_enter Tryz.func93, Tryz.ntmps93
 by_cases c1 : 0 ≤ (a0.length : Int)
 case neg => exact zno c1 H
 replace H := zpos c1 H
 replace c1 := eq_true c1
 by_cases c2 : ((a0.length : Int)).toNat ≤ 35184372088832
 case neg => exact zno c2 H
 replace H := zpos c2 H
 replace c2 := eq_true c2
 go_wp2_with (first | ((with_reducible refine gate_dst (N := 7) rfl ?_); refine ev_make rfl (Zd.int .i64) (0 : Int) HS rfl (a0.length : Int) rfl rfl Tryz.underlying52 info3 rfl (by decide) (by decide) (fun _ _ => rfl) (of_eq_true c1) (by have := of_eq_true c2; omega) ?_; clear HS; (try clear F); intro v3 w3 HS; obtain ⟨B3, d3, rfl, m3⟩ := HS.formn a0.length 0 rfl (by first | rfl | simp); (try simp only [hpn, hpm] at HS)))
 go_loopg [4] k (fun kq v_4 w' => ∃ (l18 : List Int) (x20 : Int), v_4 = .int .i64 x20 ∧ Aside0 (laws_toIntS.l0 kq l18 x20 a0 = some r) ∧ Aside0 (kq ≤ k) ∧ Hp noFP w w' [.own (Zd.slice 3 (Zd.int .i64)) l18 [.slice B3 a0.length d3]])
 case atStart => exact ⟨_, _, rfl, H, ⟨Nat.le_refl _⟩, HS⟩
 case round =>
  clear HS H; (try clear F)
  obtain ⟨l18, x20, rfl, H, HKk17, HS⟩ := hrel
  cases gk with
  | zero => exact absurd H.out (by simp [laws_toIntS.l0])
  | succ k17 =>
   simp only [laws_toIntS.l0] at H
   by_cases c22 : x20 < (a0.length : Int)
   case neg =>
    replace H := zneg c22 H
    replace c22 := eq_false c22
    obtain rfl := zsome H
    go_wp2
    exact bodyPost_ret (results_single rfl (.tmp .nil)) rfl ⟨_, rfl, HS.pick [0] (by decide) (by rfl)⟩
   replace H := zpos c22 H
   replace c22 := eq_true c22
   by_cases c23 : 0 ≤ x20
   case neg => exact zno c23 H
   replace H := zpos c23 H
   replace c23 := eq_true c23
   by_cases c24 : x20 < (a0.length : Int)
   case neg => exact zno c24 H
   replace H := zpos c24 H
   replace c24 := eq_true c24
   obtain ⟨ad25, rfl, e25_0⟩ := Kd.at_int gp0 x20 (of_eq_true c23) (of_eq_true c24)
   have e25_0_25 := (HS.keepc e25_0)
   obtain ⟨ad26, rfl, e26_0⟩ := Kd.at_int (HS.rd 0 rfl) x20 (of_eq_true c23) (of_eq_true c24)
   go_wp2_with (first | ((with_reducible refine gate_store (p := 20) rfl ?_); refine ev_set rfl (Zd.int .i64) 0 [] x20 (rd a0 x20) HS (seg := [.int .i64 (rd a0 x20)]) rfl (by decide) rfl rfl rfl (by first | rfl | exact (Nat.mul_one _).symm) rfl rfl (by kernel_rfl) (by simp [Value.oneCell']) ⟨of_eq_true c23, of_eq_true c24⟩ rfl (made_flat (fun _ => rfl)) ?_; clear HS; (try clear F); intro w27 HS; (try simp only [hpn, hpm] at HS)))
   go_roundg k17
   case measure => have := HKk17.out; omega
   case rel => exact ⟨_, _, rfl, H, ⟨by have := HKk17.out; omega⟩, HS.pick [0] (by decide) (by rfl)⟩
/-! ### laws_toStringS: function 95 -/
def laws_toStringS.l0 : Nat → (List ByteArray) → Int → (List ByteArray) → Option ((List ByteArray))
  | 0, _, _, _ => none
  | k + 1, l18, x20, a0 => (if x20 < (a0.length : Int) then (if 0 ≤ x20 then (if x20 < (a0.length : Int) then (laws_toStringS.l0 k (l18.set (x20).toNat (rdOf ByteArray.empty a0 x20)) (wrap64 (x20 + 1)) a0) else none) else none) else (some l18))
def laws_toStringS.f (k : Nat) (a0 : (List ByteArray)) : Option ((List ByteArray)) := (if 0 ≤ (a0.length : Int) then (if ((a0.length : Int)).toNat ≤ 17592186044416 then (laws_toStringS.l0 k (List.replicate a0.length (⟨#[]⟩ : ByteArray)) 0 a0) else none) else none)
set_option maxHeartbeats 16000000 in
theorem laws_toStringS.calls {k : Nat} {a0 : (List ByteArray)} {Ap0 : Option Addr} {np0 cp0 : Nat} {r : (List ByteArray)} {w : World} (h : laws_toStringS.f k a0 = some r) (gp0 : Kd.string.C w Ap0 np0 a0) (lp0 : np0 ≤ cp0) :
    Calls Tryz.prog 95 #[.slice Ap0 np0 cp0] w (fun e w' => ∃ v0_ : Value, e = .returned (v0_) ∧ Hp noFP w w' [.own (Zd.slice 9 Zd.string) r [v0_]]) := by
 obtain rfl := C_len gp0
 have HS := Hp.start w
 have H := Aside0.mk h
 clear h
 unfold laws_toStringS.f at H
 go_enter Tryz.func95, Tryz.ntmps95
 by_cases c1 : 0 ≤ (a0.length : Int)
 case neg => exact zno c1 H
 replace H := zpos c1 H
 replace c1 := eq_true c1
 by_cases c2 : ((a0.length : Int)).toNat ≤ 17592186044416
 case neg => exact zno c2 H
 replace H := zpos c2 H
 replace c2 := eq_true c2
 go_wp2_with (first | ((with_reducible refine gate_dst (N := 7) rfl ?_); refine ev_make rfl Zd.string (⟨#[]⟩ : ByteArray) HS rfl (a0.length : Int) rfl rfl Tryz.underlying57 info9 rfl (by decide) (by decide) (fun _ _ => rfl) (of_eq_true c1) (by have := of_eq_true c2; omega) ?_; clear HS; (try clear F); intro v3 w3 HS; obtain ⟨B3, d3, rfl, m3⟩ := HS.formn a0.length 0 rfl (by first | rfl | simp); (try simp only [hpn, hpm] at HS)))
 go_loopg [4] k (fun kq v_4 w' => ∃ (l18 : List ByteArray) (x20 : Int), v_4 = .int .i64 x20 ∧ Aside0 (laws_toStringS.l0 kq l18 x20 a0 = some r) ∧ Aside0 (kq ≤ k) ∧ Hp noFP w w' [.own (Zd.slice 9 Zd.string) l18 [.slice B3 a0.length d3]])
 case atStart => exact ⟨_, _, rfl, H, ⟨Nat.le_refl _⟩, HS⟩
 case round =>
  clear HS H; (try clear F)
  obtain ⟨l18, x20, rfl, H, HKk17, HS⟩ := hrel
  cases gk with
  | zero => exact absurd H.out (by simp [laws_toStringS.l0])
  | succ k17 =>
   simp only [laws_toStringS.l0] at H
   by_cases c22 : x20 < (a0.length : Int)
   case neg =>
    replace H := zneg c22 H
    replace c22 := eq_false c22
    obtain rfl := zsome H
    go_wp2
    exact bodyPost_ret (results_single rfl (.tmp .nil)) rfl ⟨_, rfl, HS.pick [0] (by decide) (by rfl)⟩
   replace H := zpos c22 H
   replace c22 := eq_true c22
   by_cases c23 : 0 ≤ x20
   case neg => exact zno c23 H
   replace H := zpos c23 H
   replace c23 := eq_true c23
   by_cases c24 : x20 < (a0.length : Int)
   case neg => exact zno c24 H
   replace H := zpos c24 H
   replace c24 := eq_true c24
   obtain ⟨ad25, rfl, e25_0⟩ := Kd.at_string gp0 x20 (of_eq_true c23) (of_eq_true c24)
   have e25_0_25 := (HS.keepc e25_0)
   obtain ⟨ad26, rfl, e26_0⟩ := Kd.at_string (HS.rd 0 rfl) x20 (of_eq_true c23) (of_eq_true c24)
   go_wp2_with (first | ((with_reducible refine gate_store (p := 20) rfl ?_); refine ev_set rfl Zd.string 0 [] x20 (rdOf ByteArray.empty a0 x20) HS (seg := [.string (rdOf ByteArray.empty a0 x20)]) rfl (by decide) rfl rfl rfl (by first | rfl | exact (Nat.mul_one _).symm) rfl rfl (by kernel_rfl) (by simp [Value.oneCell']) ⟨of_eq_true c23, of_eq_true c24⟩ rfl (made_flat (fun _ => rfl)) ?_; clear HS; (try clear F); intro w27 HS; (try simp only [hpn, hpm] at HS)))
   go_roundg k17
   case measure => have := HKk17.out; omega
   case rel => exact ⟨_, _, rfl, H, ⟨by have := HKk17.out; omega⟩, HS.pick [0] (by decide) (by rfl)⟩
end Go.Proofs.YtacocpknielofaaGreatDoor.F
