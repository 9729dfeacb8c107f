/- Functions of the program and of the law, and that their calls do what is written here. -/
import Derived.Test.YtnpokacipeobdaaDoorZgFnExactShowClienta
import Derived.Test.YtnpokacipeobdaaDoorZgFnExactShowReplya
namespace Go.Proofs.YtnpokacipeobdaaDoor.F
open Go.RowKit Go.Proofs.YtnpokacipeobdaaDoorW.PrintWords Go.Proofs.YtnpokacipeobdaaDoorW.PrintLast Go.Proofs.YtnpokacipeobdaaDoorW.PrintMore Go.Proofs.YtnpokacipeobdaaDoor.Z
attribute [local go_sem] max2_int min2_int max_two min_two max_three min_three max_four min_four
set_option linter.unusedVariables false
set_option linter.unusedSimpArgs false
set_option maxRecDepth 100000
/-! ### impl_ShowReply: function 16 -/
def impl_ShowReply.l0 : Nat → ByteArray → Int → S40 → Option (ByteArray)
  | 0, _, _, _ => none
  | k + 1, x21, x22, a0 => (if x22 < (a0.f6.length : Int) then (if 0 ≤ x22 then (if x22 < (a0.f6.length : Int) then ((impl_shown.f ((rd_T80 a0.f6 x22).f0)).bind fun t303001 => (if (⟨#[32]⟩ : ByteArray).size + t303001.size ≤ 9223372036854775807 then (if ((⟨#[32]⟩ : ByteArray) ++ t303001).size + (⟨#[47]⟩ : ByteArray).size ≤ 9223372036854775807 then ((impl_shown.f ((rd_T80 a0.f6 x22).f1)).bind fun t308001 => (if (((⟨#[32]⟩ : ByteArray) ++ t303001) ++ (⟨#[47]⟩ : ByteArray)).size + t308001.size ≤ 9223372036854775807 then (if ((((⟨#[32]⟩ : ByteArray) ++ t303001) ++ (⟨#[47]⟩ : ByteArray)) ++ t308001).size + (⟨#[47]⟩ : ByteArray).size ≤ 9223372036854775807 then ((impl_Decimal.f ((rd_T80 a0.f6 x22).f2.length : Int)).bind fun t314001 => (if (((((⟨#[32]⟩ : ByteArray) ++ t303001) ++ (⟨#[47]⟩ : ByteArray)) ++ t308001) ++ (⟨#[47]⟩ : ByteArray)).size + t314001.size ≤ 9223372036854775807 then (if x21.size + ((((((⟨#[32]⟩ : ByteArray) ++ t303001) ++ (⟨#[47]⟩ : ByteArray)) ++ t308001) ++ (⟨#[47]⟩ : ByteArray)) ++ t314001).size ≤ 9223372036854775807 then (impl_ShowReply.l0 k (x21 ++ ((((((⟨#[32]⟩ : ByteArray) ++ t303001) ++ (⟨#[47]⟩ : ByteArray)) ++ t308001) ++ (⟨#[47]⟩ : ByteArray)) ++ t314001)) (wrap64 (x22 + 1)) a0) else none) else none)) else none) else none)) else none) else none)) else none) else none) else (if x21.size + (⟨#[10]⟩ : ByteArray).size ≤ 9223372036854775807 then (some (x21 ++ (⟨#[10]⟩ : ByteArray))) else none))
def impl_ShowReply.f (k : Nat) (a0 : S40) : Option (ByteArray) := ((impl_shown.f a0.f1).bind fun t102001 => (if (⟨#[114, 101, 112, 108, 121, 32]⟩ : ByteArray).size + t102001.size ≤ 9223372036854775807 then (if ((⟨#[114, 101, 112, 108, 121, 32]⟩ : ByteArray) ++ t102001).size + (⟨#[32, 101, 114, 114, 111, 114, 32]⟩ : ByteArray).size ≤ 9223372036854775807 then ((impl_shown.f a0.f5).bind fun t107001 => (if (((⟨#[114, 101, 112, 108, 121, 32]⟩ : ByteArray) ++ t102001) ++ (⟨#[32, 101, 114, 114, 111, 114, 32]⟩ : ByteArray)).size + t107001.size ≤ 9223372036854775807 then (impl_ShowReply.l0 k ((((⟨#[114, 101, 112, 108, 121, 32]⟩ : ByteArray) ++ t102001) ++ (⟨#[32, 101, 114, 114, 111, 114, 32]⟩ : ByteArray)) ++ t107001) 0 a0) else none)) else none) else none))
def impl_ShowReply.T1 : Bool × List (List Nat × List Nat) := (true, [([], []), ([0], [0]), ([1], [1]), ([2], [2]), ([3], [3]), ([], []), ([5], [5]), ([6, 2], [6]), ([4, 7], [4, 7]), ([8, 7, 0, 1, 2, 3, 4, 5, 6, 7, 8], [8])])
theorem impl_ShowReply.tT1 : rtab .any (opsOf Tryd.f16 1) = impl_ShowReply.T1 := by kernel_rfl
def impl_ShowReply.T5 : Bool × List (List Nat × List Nat) := (true, [([], []), ([], []), ([1], [1]), ([2], [2]), ([3], [3]), ([4], [4]), ([], []), ([6], [6]), ([7, 3], [7]), ([5, 8], [5, 8]), ([9], [9]), ([], []), ([11], [11]), ([12], [12]), ([13, 8], [13]), ([10, 14], [10, 14]), ([0, 15], [0, 15]), ([16, 14, 0, 1, 2, 3, 4, 5, 6, 7, 8, 9, 10, 11, 12, 13, 14, 15, 16], [0, 16])])
theorem impl_ShowReply.tT5 : rtab .any (opsOf Tryd.f16 5) = impl_ShowReply.T5 := by kernel_rfl
set_option maxHeartbeats 16000000 in
theorem impl_ShowReply.calls {k : Nat} {a0 : S40} {Ap0 : Option Addr} {np0 cp0 : Nat} {r : ByteArray} {w : World} (h : impl_ShowReply.f k a0 = some r) (gp0 : k80.C w Ap0 np0 a0.f6) (lp0 : np0 ≤ cp0) (hgT : Go.Lib.TabIs Tryd.prog w "internal/strconv.uint64pow10" .u64 Go.Lib.pow10Tab) :
    Calls Tryd.prog 16 #[.agg #[.string a0.f0, .int .i64 a0.f1, .int .i64 a0.f2, .int .i64 a0.f3, .int .i64 a0.f4, .int .i64 a0.f5, .slice Ap0 np0 cp0, .string a0.f7]] w (fun e w' => e = .returned (.string r) ∧ Hp noFP w w' []) := by
 obtain rfl := C_len gp0
 have HS := Hp.start w
 have H := Aside0.mk h
 clear h
 unfold impl_ShowReply.f at H
 go_enter Tryd.func16, Tryd.ntmps16
 go_wp2_with (first | ((with_reducible refine gate_dst (N := 1) rfl ?_); refine ev_box rfl HS (by first | (go_simp; done) | (go_simp; rfl)) rfl ?_; clear HS; (try clear F); intro g1 w1 HS; (try simp only [hpn, hpm] at HS); have F := HS.boxes; simp only [bxn] at F))
 replace H := zbind H; obtain ⟨t102001, ht102001, H⟩ := H
 by_cases c103001 : (⟨#[114, 101, 112, 108, 121, 32]⟩ : ByteArray).size + t102001.size ≤ 9223372036854775807
 case neg => exact zno c103001 H
 replace H := zpos c103001 H
 replace c103001 := eq_true c103001
 by_cases c104001 : ((⟨#[114, 101, 112, 108, 121, 32]⟩ : ByteArray) ++ t102001).size + (⟨#[32, 101, 114, 114, 111, 114, 32]⟩ : ByteArray).size ≤ 9223372036854775807
 case neg => exact zno c104001 H
 replace H := zpos c104001 H
 replace c104001 := eq_true c104001
 replace H := zbind H; obtain ⟨t107001, ht107001, H⟩ := H
 by_cases c108001 : (((⟨#[114, 101, 112, 108, 121, 32]⟩ : ByteArray) ++ t102001) ++ (⟨#[32, 101, 114, 114, 111, 114, 32]⟩ : ByteArray)).size + t107001.size ≤ 9223372036854775807
 case neg => exact zno c108001 H
 replace H := zpos c108001 H
 replace c108001 := eq_true c108001
 refine dr_start [] HS #[false, false, false, false, false, false, false, false, false, false] (by kernel_rfl) rfl rfl impl_ShowReply.tT1 (fun w4 HT HS HH => ?_)
 (try clear F)
 refine drq_of [(0, some 6), (1, some 7), (5, some 11), (6, some 12)] ?_
 repeat (first | (refine drq_pure HT (v := ?_) (a' := ?_) rfl rfl (by kernel_rfl) (fun _ _ _ h => h) (.inl ⟨by rfl, ?_⟩) ?_ ?_; rotate_left; (intro w'; go_simp; with_reducible rfl); rotate_left; (simp only [Act.put, ptn]; rfl)) | (refine drq_take HT HH (v := ?_) (a' := ?_) rfl rfl (by kernel_rfl) (fun _ _ _ h => h) (.inl ⟨by rfl, ?_⟩) ?_ ?_; rotate_left; (rintro w' ⟨rs', HS'⟩; have F := HS'.boxes; simp only [bxn, List.cons_append, List.nil_append] at F; go_simp; with_reducible rfl); rotate_left; (simp only [Act.put, ptn]; rfl)))
 refine drq_end ?_
 refine dr_one 2 HT rfl (by kernel_rfl) (by decide) (fun K hK => ?_)
 refine goes_ Tryd.func43 (by kernel_rfl) rfl #[.int .i64 a0.f1] (by rfl) rfl rfl (by simp only [mpn]; rfl) ?_; refine (impl_shown.calls ht102001.out (HS.keept hgT)).mono ?_; rintro _ wt102001 ⟨rfl, HQ⟩; refine ⟨_, rfl, ?_⟩; replace HS := HS.call HQ; clear HQ; (try clear F)
 (try simp only [hpn, hpm] at HS)
 have F := HS.boxes; simp only [bxn] at F
 refine hK.out _ _ ⟨_, HS⟩ (fun HH => ?_)
 clear hK K
 refine norm_ (a' := ?_) ?_ ?_
 rotate_left
 · show Act.put _ (some 8) _ = _; simp only [Act.put, ptn]; rfl
 refine dr_pure 3 (some 9) HT (v := .string ((⟨#[114, 101, 112, 108, 121, 32]⟩ : ByteArray) ++ t102001)) (a' := ?_) rfl rfl (by kernel_rfl) (fun _ _ _ h => h) (.inl ⟨by rfl, fun w' => (run_cat rfl rfl rfl (of_eq_true c103001))⟩) ?_ ?_
 rotate_left
 · simp only [Act.put, ptn]; rfl
 refine dr_pure 4 (some 10) HT (v := .string (((⟨#[114, 101, 112, 108, 121, 32]⟩ : ByteArray) ++ t102001) ++ (⟨#[32, 101, 114, 114, 111, 114, 32]⟩ : ByteArray))) (a' := ?_) rfl rfl (by kernel_rfl) (fun _ _ _ h => h) (.inl ⟨by rfl, fun w' => (run_cat rfl rfl rfl (of_eq_true c104001))⟩) ?_ ?_
 rotate_left
 · simp only [Act.put, ptn]; rfl
 refine dr_one 7 HT rfl (by kernel_rfl) (by decide) (fun K hK => ?_)
 refine goes_ Tryd.func43 (by kernel_rfl) rfl #[.int .i64 a0.f5] (by rfl) rfl rfl (by simp only [mpn]; rfl) ?_; refine (impl_shown.calls ht107001.out (HS.keept hgT)).mono ?_; rintro _ wt107001 ⟨rfl, HQ⟩; refine ⟨_, rfl, ?_⟩; replace HS := HS.call HQ; clear HQ; (try clear F)
 (try simp only [hpn, hpm] at HS)
 have F := HS.boxes; simp only [bxn] at F
 refine hK.out _ _ ⟨_, HS⟩ (fun HH => ?_)
 clear hK K
 refine norm_ (a' := ?_) ?_ ?_
 rotate_left
 · show Act.put _ (some 13) _ = _; simp only [Act.put, ptn]; rfl
 refine dr_pure 8 (some 14) HT (v := .string ((((⟨#[114, 101, 112, 108, 121, 32]⟩ : ByteArray) ++ t102001) ++ (⟨#[32, 101, 114, 114, 111, 114, 32]⟩ : ByteArray)) ++ t107001)) (a' := ?_) rfl rfl (by kernel_rfl) (fun _ _ _ h => h) (.inl ⟨by rfl, fun w' => (run_cat rfl rfl rfl (of_eq_true c108001))⟩) ?_ ?_
 rotate_left
 · simp only [Act.put, ptn]; rfl
 refine drq_of [(9, some 3)] ?_
 repeat (first | (refine drq_pure HT (v := ?_) (a' := ?_) rfl rfl (by kernel_rfl) (fun _ _ _ h => h) (.inl ⟨by rfl, ?_⟩) ?_ ?_; rotate_left; (intro w'; go_simp; with_reducible rfl); rotate_left; (simp only [Act.put, ptn]; rfl)))
 refine drq_end ?_
 refine done_ (done_of HT.out (by kernel_rfl)) ?_
 (try clear F)
 have F := HS.boxes; simp only [bxn] at F
 go_wp2
 go_loopg [3, 18] k (fun kq v_3 v_18 w' => ∃ (x21 : ByteArray) (x22 : Int), v_3 = .string x21 ∧ v_18 = .int .i64 x22 ∧ Aside0 (impl_ShowReply.l0 kq x21 x22 a0 = some r) ∧ Aside0 (kq ≤ k) ∧ Hp noFP w w' [.box g1 [.string a0.f0, .int .i64 a0.f1, .int .i64 a0.f2, .int .i64 a0.f3, .int .i64 a0.f4, .int .i64 a0.f5, .slice Ap0 a0.f6.length cp0, .string a0.f7] 40])
 case atStart => exact ⟨_, _, rfl, rfl, H, ⟨Nat.le_refl _⟩, HS⟩
 case round =>
  clear HS H; (try clear F)
  obtain ⟨x21, x22, rfl, rfl, H, HKk20, HS⟩ := hrel
  have F := HS.boxes; simp only [bxn] at F
  cases gk with
  | zero => exact absurd H.out (by simp [impl_ShowReply.l0])
  | succ k20 =>
   simp only [impl_ShowReply.l0] at H
   by_cases c24 : x22 < (a0.f6.length : Int)
   case neg =>
    replace H := zneg c24 H
    replace c24 := eq_false c24
    by_cases c35 : x21.size + (⟨#[10]⟩ : ByteArray).size ≤ 9223372036854775807
    case neg => exact zno c35 H
    replace H := zpos c35 H
    replace c35 := eq_true c35
    obtain rfl := zsome H
    go_wp2_with (first | ((with_reducible refine gate_dst (N := 41) rfl ?_); refine ev_val rfl (run_cat rfl rfl rfl (of_eq_true c35)) ?_))
    go_ret
    exact ⟨rfl, HS.pick [] (by decide) (by rfl)⟩
   replace H := zpos c24 H
   replace c24 := eq_true c24
   by_cases c25 : 0 ≤ x22
   case neg => exact zno c25 H
   replace H := zpos c25 H
   replace c25 := eq_true c25
   by_cases c26 : x22 < (a0.f6.length : Int)
   case neg => exact zno c26 H
   replace H := zpos c26 H
   replace c26 := eq_true c26
   obtain ⟨ad27, B27_2, d27_2, B27_3, d27_3, rfl, e27_0, e27_1, e27_2, e27_3, m27_2, y27_2, m27_3, y27_3⟩ := at_T80 gp0 x22 (of_eq_true c25) (of_eq_true c26)
   have e27_0_27 := (HS.keepc e27_0)
   have e27_1_27 := (HS.keepc e27_1)
   have e27_2_27 := (HS.keepc e27_2)
   have e27_3_27 := (HS.keepc e27_3)
   go_wp2_with (first | ((with_reducible refine gate_dst (N := 5) rfl ?_); refine ev_box rfl HS (by first | (go_simp; done) | (go_simp; rfl)) rfl ?_; clear HS; (try clear F); intro g5 w5 HS; (try simp only [hpn, hpm] at HS); have F := HS.boxes; simp only [bxn] at F) | ((with_reducible refine gate_store (p := 5) rfl ?_); refine ev_store rfl 1 0 HS (seg := [.int .i64 ((rd_T80 a0.f6 x22).f0), .int .i64 ((rd_T80 a0.f6 x22).f1), .slice B27_2 (rd_T80 a0.f6 x22).f2.length d27_2, .slice B27_3 (rd_T80 a0.f6 x22).f3.length d27_3]) rfl rfl rfl rfl rfl rfl (by kernel_rfl) (by simp [wrt]) (by simp [Value.oneCell']) ?_; clear HS; (try clear F); intro w30 HS; (try simp only [hpn, hpm] at HS); have F := HS.boxes; simp only [bxn] at F))
   replace H := zbind H; obtain ⟨t303001, ht303001, H⟩ := H
   by_cases c304001 : (⟨#[32]⟩ : ByteArray).size + t303001.size ≤ 9223372036854775807
   case neg => exact zno c304001 H
   replace H := zpos c304001 H
   replace c304001 := eq_true c304001
   by_cases c305001 : ((⟨#[32]⟩ : ByteArray) ++ t303001).size + (⟨#[47]⟩ : ByteArray).size ≤ 9223372036854775807
   case neg => exact zno c305001 H
   replace H := zpos c305001 H
   replace c305001 := eq_true c305001
   replace H := zbind H; obtain ⟨t308001, ht308001, H⟩ := H
   by_cases c309001 : (((⟨#[32]⟩ : ByteArray) ++ t303001) ++ (⟨#[47]⟩ : ByteArray)).size + t308001.size ≤ 9223372036854775807
   case neg => exact zno c309001 H
   replace H := zpos c309001 H
   replace c309001 := eq_true c309001
   by_cases c310001 : ((((⟨#[32]⟩ : ByteArray) ++ t303001) ++ (⟨#[47]⟩ : ByteArray)) ++ t308001).size + (⟨#[47]⟩ : ByteArray).size ≤ 9223372036854775807
   case neg => exact zno c310001 H
   replace H := zpos c310001 H
   replace c310001 := eq_true c310001
   replace H := zbind H; obtain ⟨t314001, ht314001, H⟩ := H
   by_cases c315001 : (((((⟨#[32]⟩ : ByteArray) ++ t303001) ++ (⟨#[47]⟩ : ByteArray)) ++ t308001) ++ (⟨#[47]⟩ : ByteArray)).size + t314001.size ≤ 9223372036854775807
   case neg => exact zno c315001 H
   replace H := zpos c315001 H
   replace c315001 := eq_true c315001
   by_cases c316001 : x21.size + ((((((⟨#[32]⟩ : ByteArray) ++ t303001) ++ (⟨#[47]⟩ : ByteArray)) ++ t308001) ++ (⟨#[47]⟩ : ByteArray)) ++ t314001).size ≤ 9223372036854775807
   case neg => exact zno c316001 H
   replace H := zpos c316001 H
   replace c316001 := eq_true c316001
   refine dr_start [] HS #[false, false, false, false, false, false, false, false, false, false, false, false, false, false, false, false, false, false] (by kernel_rfl) rfl rfl impl_ShowReply.tT5 (fun w33 HT HS HH => ?_)
   (try clear F)
   refine drq_of [(0, some 22), (1, some 23), (2, some 24), (6, some 28), (7, some 29), (11, some 33), (12, some 34), (13, some 35)] ?_
   repeat (first | (refine drq_pure HT (v := ?_) (a' := ?_) rfl rfl (by kernel_rfl) (fun _ _ _ h => h) (.inl ⟨by rfl, ?_⟩) ?_ ?_; rotate_left; (intro w'; go_simp; with_reducible rfl); rotate_left; (simp only [Act.put, ptn]; rfl)) | (refine drq_take HT HH (v := ?_) (a' := ?_) rfl rfl (by kernel_rfl) (fun _ _ _ h => h) (.inl ⟨by rfl, ?_⟩) ?_ ?_; rotate_left; (rintro w' ⟨rs', HS'⟩; have F := HS'.boxes; simp only [bxn, List.cons_append, List.nil_append] at F; go_simp; with_reducible rfl); rotate_left; (simp only [Act.put, ptn]; rfl)))
   refine drq_end ?_
   refine dr_one 3 HT rfl (by kernel_rfl) (by decide) (fun K hK => ?_)
   refine goes_ Tryd.func43 (by kernel_rfl) rfl #[.int .i64 ((rd_T80 a0.f6 x22).f0)] (by rfl) rfl rfl (by simp only [mpn]; rfl) ?_; refine (impl_shown.calls ht303001.out (HS.keept hgT)).mono ?_; rintro _ wt303001 ⟨rfl, HQ⟩; refine ⟨_, rfl, ?_⟩; replace HS := HS.call HQ; clear HQ; (try clear F)
   (try simp only [hpn, hpm] at HS)
   have F := HS.boxes; simp only [bxn] at F
   refine hK.out _ _ ⟨_, HS⟩ (fun HH => ?_)
   clear hK K
   refine norm_ (a' := ?_) ?_ ?_
   rotate_left
   · show Act.put _ (some 25) _ = _; simp only [Act.put, ptn]; rfl
   refine dr_pure 4 (some 26) HT (v := .string ((⟨#[32]⟩ : ByteArray) ++ t303001)) (a' := ?_) rfl rfl (by kernel_rfl) (fun _ _ _ h => h) (.inl ⟨by rfl, fun w' => (run_cat rfl rfl rfl (of_eq_true c304001))⟩) ?_ ?_
   rotate_left
   · simp only [Act.put, ptn]; rfl
   refine dr_pure 5 (some 27) HT (v := .string (((⟨#[32]⟩ : ByteArray) ++ t303001) ++ (⟨#[47]⟩ : ByteArray))) (a' := ?_) rfl rfl (by kernel_rfl) (fun _ _ _ h => h) (.inl ⟨by rfl, fun w' => (run_cat rfl rfl rfl (of_eq_true c305001))⟩) ?_ ?_
   rotate_left
   · simp only [Act.put, ptn]; rfl
   refine dr_one 8 HT rfl (by kernel_rfl) (by decide) (fun K hK => ?_)
   refine goes_ Tryd.func43 (by kernel_rfl) rfl #[.int .i64 ((rd_T80 a0.f6 x22).f1)] (by rfl) rfl rfl (by simp only [mpn]; rfl) ?_; refine (impl_shown.calls ht308001.out (HS.keept hgT)).mono ?_; rintro _ wt308001 ⟨rfl, HQ⟩; refine ⟨_, rfl, ?_⟩; replace HS := HS.call HQ; clear HQ; (try clear F)
   (try simp only [hpn, hpm] at HS)
   have F := HS.boxes; simp only [bxn] at F
   refine hK.out _ _ ⟨_, HS⟩ (fun HH => ?_)
   clear hK K
   refine norm_ (a' := ?_) ?_ ?_
   rotate_left
   · show Act.put _ (some 30) _ = _; simp only [Act.put, ptn]; rfl
   refine dr_pure 9 (some 31) HT (v := .string ((((⟨#[32]⟩ : ByteArray) ++ t303001) ++ (⟨#[47]⟩ : ByteArray)) ++ t308001)) (a' := ?_) rfl rfl (by kernel_rfl) (fun _ _ _ h => h) (.inl ⟨by rfl, fun w' => (run_cat rfl rfl rfl (of_eq_true c309001))⟩) ?_ ?_
   rotate_left
   · simp only [Act.put, ptn]; rfl
   refine dr_pure 10 (some 32) HT (v := .string (((((⟨#[32]⟩ : ByteArray) ++ t303001) ++ (⟨#[47]⟩ : ByteArray)) ++ t308001) ++ (⟨#[47]⟩ : ByteArray))) (a' := ?_) rfl rfl (by kernel_rfl) (fun _ _ _ h => h) (.inl ⟨by rfl, fun w' => (run_cat rfl rfl rfl (of_eq_true c310001))⟩) ?_ ?_
   rotate_left
   · simp only [Act.put, ptn]; rfl
   refine dr_one 14 HT rfl (by kernel_rfl) (by decide) (fun K hK => ?_)
   refine goes_ Tryd.func44 (by kernel_rfl) rfl #[.int .i64 ((rd_T80 a0.f6 x22).f2.length : Int)] (by rfl) rfl rfl (by simp only [mpn]; rfl) ?_; refine (impl_Decimal.calls ht314001.out (HS.keept hgT)).mono ?_; rintro _ wt314001 ⟨rfl, HQ⟩; refine ⟨_, rfl, ?_⟩; replace HS := HS.call HQ; clear HQ; (try clear F)
   (try simp only [hpn, hpm] at HS)
   have F := HS.boxes; simp only [bxn] at F
   refine hK.out _ _ ⟨_, HS⟩ (fun HH => ?_)
   clear hK K
   refine norm_ (a' := ?_) ?_ ?_
   rotate_left
   · show Act.put _ (some 36) _ = _; simp only [Act.put, ptn]; rfl
   refine dr_pure 15 (some 37) HT (v := .string ((((((⟨#[32]⟩ : ByteArray) ++ t303001) ++ (⟨#[47]⟩ : ByteArray)) ++ t308001) ++ (⟨#[47]⟩ : ByteArray)) ++ t314001)) (a' := ?_) rfl rfl (by kernel_rfl) (fun _ _ _ h => h) (.inl ⟨by rfl, fun w' => (run_cat rfl rfl rfl (of_eq_true c315001))⟩) ?_ ?_
   rotate_left
   · simp only [Act.put, ptn]; rfl
   refine dr_pure 16 (some 38) HT (v := .string (x21 ++ ((((((⟨#[32]⟩ : ByteArray) ++ t303001) ++ (⟨#[47]⟩ : ByteArray)) ++ t308001) ++ (⟨#[47]⟩ : ByteArray)) ++ t314001))) (a' := ?_) rfl rfl (by kernel_rfl) (fun _ _ _ h => h) (.inl ⟨by rfl, fun w' => (run_cat rfl rfl rfl (of_eq_true c316001))⟩) ?_ ?_
   rotate_left
   · simp only [Act.put, ptn]; rfl
   refine drq_of [(17, some 3)] ?_
   repeat (first | (refine drq_pure HT (v := ?_) (a' := ?_) rfl rfl (by kernel_rfl) (fun _ _ _ h => h) (.inl ⟨by rfl, ?_⟩) ?_ ?_; rotate_left; (intro w'; go_simp; with_reducible rfl); rotate_left; (simp only [Act.put, ptn]; rfl)))
   refine drq_end ?_
   refine done_ (done_of HT.out (by kernel_rfl)) ?_
   (try clear F)
   have F := HS.boxes; simp only [bxn] at F
   go_wp2
   go_roundg k20
   case measure => have := HKk20.out; omega
   case rel => exact ⟨_, _, rfl, rfl, H, ⟨by have := HKk20.out; omega⟩, HS.pick [0] (by decide) (by rfl)⟩
/-! ### impl_ShowClient: function 28 -/
def impl_ShowClient.l0 : Nat → ByteArray → Int → S65 → Option (ByteArray)
  | 0, _, _, _ => none
  | k + 1, x20, x21, a0 => (if x21 < (a0.f3.length : Int) then (if 0 ≤ x21 then (if x21 < (a0.f3.length : Int) then ((impl_ShowReply.f k (⟨(rd_T101 a0.f3 x21).f1.f0, (rd_T101 a0.f3 x21).f1.f1, (rd_T101 a0.f3 x21).f1.f2, (rd_T101 a0.f3 x21).f1.f3, (rd_T101 a0.f3 x21).f1.f4, (rd_T101 a0.f3 x21).f1.f5, (rd_T101 a0.f3 x21).f1.f6, (rd_T101 a0.f3 x21).f1.f7⟩ : S40)).bind fun t31 => (if x20.size + t31.size ≤ 9223372036854775807 then (impl_ShowClient.l0 k (x20 ++ t31) (wrap64 (x21 + 1)) a0) else none)) else none) else none) else (some x20))
def impl_ShowClient.f (k : Nat) (a0 : S65) : Option (ByteArray) := ((impl_Decimal.f (a0.f2.length : Int)).bind fun t103001 => (if (⟨#[119, 97, 105, 116, 115, 32]⟩ : ByteArray).size + t103001.size ≤ 9223372036854775807 then (if ((⟨#[119, 97, 105, 116, 115, 32]⟩ : ByteArray) ++ t103001).size + (⟨#[32, 108, 97, 116, 101, 32]⟩ : ByteArray).size ≤ 9223372036854775807 then ((impl_Decimal.f (a0.f4.length : Int)).bind fun t109001 => (if (((⟨#[119, 97, 105, 116, 115, 32]⟩ : ByteArray) ++ t103001) ++ (⟨#[32, 108, 97, 116, 101, 32]⟩ : ByteArray)).size + t109001.size ≤ 9223372036854775807 then (if ((((⟨#[119, 97, 105, 116, 115, 32]⟩ : ByteArray) ++ t103001) ++ (⟨#[32, 108, 97, 116, 101, 32]⟩ : ByteArray)) ++ t109001).size + (⟨#[10]⟩ : ByteArray).size ≤ 9223372036854775807 then (impl_ShowClient.l0 k (((((⟨#[119, 97, 105, 116, 115, 32]⟩ : ByteArray) ++ t103001) ++ (⟨#[32, 108, 97, 116, 101, 32]⟩ : ByteArray)) ++ t109001) ++ (⟨#[10]⟩ : ByteArray)) 0 a0) else none) else none)) else none) else none))
def impl_ShowClient.T1 : Bool × List (List Nat × List Nat) := (true, [([], []), ([0], [0]), ([1], [1]), ([2], [2]), ([3], [3]), ([4], [4]), ([], []), ([6], [6]), ([7], [7]), ([8, 3], [8]), ([5, 9], [5, 9]), ([10], [10]), ([11, 9, 0, 1, 2, 3, 4, 5, 6, 7, 8, 9, 10, 11], [11])])
theorem impl_ShowClient.tT1 : rtab .any (opsOf Tryd.f28 1) = impl_ShowClient.T1 := by kernel_rfl
set_option maxHeartbeats 16000000 in
theorem impl_ShowClient.calls {k : Nat} {a0 : S65} {Ap0 : Option Addr} {np0 cp0 : Nat} {Ap1 : Option Addr} {np1 cp1 : Nat} {Ap2 : Option Addr} {np2 cp2 : Nat} {r : ByteArray} {w : World} (h : impl_ShowClient.f k a0 = some r) (gp0 : k130.C w Ap0 np0 a0.f2) (lp0 : np0 ≤ cp0) (gp1 : k101.C w Ap1 np1 a0.f3) (lp1 : np1 ≤ cp1) (gp2 : (Kd.int .i64).C w Ap2 np2 a0.f4) (lp2 : np2 ≤ cp2) (hgT : Go.Lib.TabIs Tryd.prog w "internal/strconv.uint64pow10" .u64 Go.Lib.pow10Tab) :
    Calls Tryd.prog 28 #[.agg #[.string a0.f0, .int .i64 a0.f1, .slice Ap0 np0 cp0, .slice Ap1 np1 cp1, .slice Ap2 np2 cp2]] w (fun e w' => e = .returned (.string r) ∧ Hp noFP w w' []) := by
 obtain rfl := C_len gp0
 obtain rfl := C_len gp1
 obtain rfl := C_len gp2
 have HS := Hp.start w
 have H := Aside0.mk h
 clear h
 unfold impl_ShowClient.f at H
 go_enter Tryd.func28, Tryd.ntmps28
 go_wp2_with (first | ((with_reducible refine gate_dst (N := 1) rfl ?_); refine ev_box rfl HS (by first | (go_simp; done) | (go_simp; rfl)) rfl ?_; clear HS; (try clear F); intro g1 w1 HS; (try simp only [hpn, hpm] at HS); have F := HS.boxes; simp only [bxn] at F))
 replace H := zbind H; obtain ⟨t103001, ht103001, H⟩ := H
 by_cases c104001 : (⟨#[119, 97, 105, 116, 115, 32]⟩ : ByteArray).size + t103001.size ≤ 9223372036854775807
 case neg => exact zno c104001 H
 replace H := zpos c104001 H
 replace c104001 := eq_true c104001
 by_cases c105001 : ((⟨#[119, 97, 105, 116, 115, 32]⟩ : ByteArray) ++ t103001).size + (⟨#[32, 108, 97, 116, 101, 32]⟩ : ByteArray).size ≤ 9223372036854775807
 case neg => exact zno c105001 H
 replace H := zpos c105001 H
 replace c105001 := eq_true c105001
 replace H := zbind H; obtain ⟨t109001, ht109001, H⟩ := H
 by_cases c110001 : (((⟨#[119, 97, 105, 116, 115, 32]⟩ : ByteArray) ++ t103001) ++ (⟨#[32, 108, 97, 116, 101, 32]⟩ : ByteArray)).size + t109001.size ≤ 9223372036854775807
 case neg => exact zno c110001 H
 replace H := zpos c110001 H
 replace c110001 := eq_true c110001
 by_cases c111001 : ((((⟨#[119, 97, 105, 116, 115, 32]⟩ : ByteArray) ++ t103001) ++ (⟨#[32, 108, 97, 116, 101, 32]⟩ : ByteArray)) ++ t109001).size + (⟨#[10]⟩ : ByteArray).size ≤ 9223372036854775807
 case neg => exact zno c111001 H
 replace H := zpos c111001 H
 replace c111001 := eq_true c111001
 refine dr_start [] HS #[false, false, false, false, false, false, false, false, false, false, false, false, false] (by kernel_rfl) rfl rfl impl_ShowClient.tT1 (fun w4 HT HS HH => ?_)
 (try clear F)
 refine drq_of [(0, some 6), (1, some 7), (2, some 8), (6, some 12), (7, some 13), (8, some 14)] ?_
 repeat (first | (refine drq_pure HT (v := ?_) (a' := ?_) rfl rfl (by kernel_rfl) (fun _ _ _ h => h) (.inl ⟨by rfl, ?_⟩) ?_ ?_; rotate_left; (intro w'; go_simp; with_reducible rfl); rotate_left; (simp only [Act.put, ptn]; rfl)) | (refine drq_take HT HH (v := ?_) (a' := ?_) rfl rfl (by kernel_rfl) (fun _ _ _ h => h) (.inl ⟨by rfl, ?_⟩) ?_ ?_; rotate_left; (rintro w' ⟨rs', HS'⟩; have F := HS'.boxes; simp only [bxn, List.cons_append, List.nil_append] at F; go_simp; with_reducible rfl); rotate_left; (simp only [Act.put, ptn]; rfl)))
 refine drq_end ?_
 refine dr_one 3 HT rfl (by kernel_rfl) (by decide) (fun K hK => ?_)
 refine goes_ Tryd.func44 (by kernel_rfl) rfl #[.int .i64 (a0.f2.length : Int)] (by rfl) rfl rfl (by simp only [mpn]; rfl) ?_; refine (impl_Decimal.calls ht103001.out (HS.keept hgT)).mono ?_; rintro _ wt103001 ⟨rfl, HQ⟩; refine ⟨_, rfl, ?_⟩; replace HS := HS.call HQ; clear HQ; (try clear F)
 (try simp only [hpn, hpm] at HS)
 have F := HS.boxes; simp only [bxn] at F
 refine hK.out _ _ ⟨_, HS⟩ (fun HH => ?_)
 clear hK K
 refine norm_ (a' := ?_) ?_ ?_
 rotate_left
 · show Act.put _ (some 9) _ = _; simp only [Act.put, ptn]; rfl
 refine dr_pure 4 (some 10) HT (v := .string ((⟨#[119, 97, 105, 116, 115, 32]⟩ : ByteArray) ++ t103001)) (a' := ?_) rfl rfl (by kernel_rfl) (fun _ _ _ h => h) (.inl ⟨by rfl, fun w' => (run_cat rfl rfl rfl (of_eq_true c104001))⟩) ?_ ?_
 rotate_left
 · simp only [Act.put, ptn]; rfl
 refine dr_pure 5 (some 11) HT (v := .string (((⟨#[119, 97, 105, 116, 115, 32]⟩ : ByteArray) ++ t103001) ++ (⟨#[32, 108, 97, 116, 101, 32]⟩ : ByteArray))) (a' := ?_) rfl rfl (by kernel_rfl) (fun _ _ _ h => h) (.inl ⟨by rfl, fun w' => (run_cat rfl rfl rfl (of_eq_true c105001))⟩) ?_ ?_
 rotate_left
 · simp only [Act.put, ptn]; rfl
 refine dr_one 9 HT rfl (by kernel_rfl) (by decide) (fun K hK => ?_)
 refine goes_ Tryd.func44 (by kernel_rfl) rfl #[.int .i64 (a0.f4.length : Int)] (by rfl) rfl rfl (by simp only [mpn]; rfl) ?_; refine (impl_Decimal.calls ht109001.out (HS.keept hgT)).mono ?_; rintro _ wt109001 ⟨rfl, HQ⟩; refine ⟨_, rfl, ?_⟩; replace HS := HS.call HQ; clear HQ; (try clear F)
 (try simp only [hpn, hpm] at HS)
 have F := HS.boxes; simp only [bxn] at F
 refine hK.out _ _ ⟨_, HS⟩ (fun HH => ?_)
 clear hK K
 refine norm_ (a' := ?_) ?_ ?_
 rotate_left
 · show Act.put _ (some 15) _ = _; simp only [Act.put, ptn]; rfl
 refine dr_pure 10 (some 16) HT (v := .string ((((⟨#[119, 97, 105, 116, 115, 32]⟩ : ByteArray) ++ t103001) ++ (⟨#[32, 108, 97, 116, 101, 32]⟩ : ByteArray)) ++ t109001)) (a' := ?_) rfl rfl (by kernel_rfl) (fun _ _ _ h => h) (.inl ⟨by rfl, fun w' => (run_cat rfl rfl rfl (of_eq_true c110001))⟩) ?_ ?_
 rotate_left
 · simp only [Act.put, ptn]; rfl
 refine dr_pure 11 (some 17) HT (v := .string (((((⟨#[119, 97, 105, 116, 115, 32]⟩ : ByteArray) ++ t103001) ++ (⟨#[32, 108, 97, 116, 101, 32]⟩ : ByteArray)) ++ t109001) ++ (⟨#[10]⟩ : ByteArray))) (a' := ?_) rfl rfl (by kernel_rfl) (fun _ _ _ h => h) (.inl ⟨by rfl, fun w' => (run_cat rfl rfl rfl (of_eq_true c111001))⟩) ?_ ?_
 rotate_left
 · simp only [Act.put, ptn]; rfl
 refine drq_of [(12, some 3)] ?_
 repeat (first | (refine drq_pure HT (v := ?_) (a' := ?_) rfl rfl (by kernel_rfl) (fun _ _ _ h => h) (.inl ⟨by rfl, ?_⟩) ?_ ?_; rotate_left; (intro w'; go_simp; with_reducible rfl); rotate_left; (simp only [Act.put, ptn]; rfl)))
 refine drq_end ?_
 refine done_ (done_of HT.out (by kernel_rfl)) ?_
 (try clear F)
 have F := HS.boxes; simp only [bxn] at F
 go_wp2
 go_loopg [3, 21] k (fun kq v_3 v_21 w' => ∃ (x20 : ByteArray) (x21 : Int), v_3 = .string x20 ∧ v_21 = .int .i64 x21 ∧ Aside0 (impl_ShowClient.l0 kq x20 x21 a0 = some r) ∧ Aside0 (kq ≤ k) ∧ Hp noFP w w' [.box g1 [.string a0.f0, .int .i64 a0.f1, .slice Ap0 a0.f2.length cp0, .slice Ap1 a0.f3.length cp1, .slice Ap2 a0.f4.length cp2] 65])
 case atStart => exact ⟨_, _, rfl, rfl, H, ⟨Nat.le_refl _⟩, HS⟩
 case round =>
  clear HS H; (try clear F)
  obtain ⟨x20, x21, rfl, rfl, H, HKk19, HS⟩ := hrel
  have F := HS.boxes; simp only [bxn] at F
  cases gk with
  | zero => exact absurd H.out (by simp [impl_ShowClient.l0])
  | succ k19 =>
   simp only [impl_ShowClient.l0] at H
   by_cases c23 : x21 < (a0.f3.length : Int)
   case neg =>
    replace H := zneg c23 H
    replace c23 := eq_false c23
    obtain rfl := zsome H
    go_wp2
    go_ret
    exact ⟨rfl, HS.pick [] (by decide) (by rfl)⟩
   replace H := zpos c23 H
   replace c23 := eq_true c23
   by_cases c24 : 0 ≤ x21
   case neg => exact zno c24 H
   replace H := zpos c24 H
   replace c24 := eq_true c24
   by_cases c25 : x21 < (a0.f3.length : Int)
   case neg => exact zno c25 H
   replace H := zpos c25 H
   replace c25 := eq_true c25
   obtain ⟨ad26, B26_7, d26_7, rfl, e26_0, e26_1, e26_2, e26_3, e26_4, e26_5, e26_6, e26_7, e26_8, m26_7, y26_7⟩ := at_T101 gp1 x21 (of_eq_true c24) (of_eq_true c25)
   have e26_0_26 := (HS.keepc e26_0)
   have e26_1_26 := (HS.keepc e26_1)
   have e26_2_26 := (HS.keepc e26_2)
   have e26_3_26 := (HS.keepc e26_3)
   have e26_4_26 := (HS.keepc e26_4)
   have e26_5_26 := (HS.keepc e26_5)
   have e26_6_26 := (HS.keepc e26_6)
   have e26_7_26 := (HS.keepc e26_7)
   have e26_8_26 := (HS.keepc e26_8)
   replace H := zbind H; obtain ⟨t31, ht31, H⟩ := H
   by_cases c33 : x20.size + t31.size ≤ 9223372036854775807
   case neg => exact zno c33 H
   replace H := zpos c33 H
   replace c33 := eq_true c33
   go_wp2_with (first | ((with_reducible refine gate_dst (N := 5) rfl ?_); refine ev_box rfl HS (by first | (go_simp; done) | (go_simp; rfl)) rfl ?_; clear HS; (try clear F); intro g5 w5 HS; (try simp only [hpn, hpm] at HS); have F := HS.boxes; simp only [bxn] at F) | ((with_reducible refine gate_store (p := 5) rfl ?_); refine ev_store rfl 1 0 HS (seg := [.int .i64 ((rd_T101 a0.f3 x21).f0), .string ((rd_T101 a0.f3 x21).f1.f0), .int .i64 ((rd_T101 a0.f3 x21).f1.f1), .int .i64 ((rd_T101 a0.f3 x21).f1.f2), .int .i64 ((rd_T101 a0.f3 x21).f1.f3), .int .i64 ((rd_T101 a0.f3 x21).f1.f4), .int .i64 ((rd_T101 a0.f3 x21).f1.f5), .slice B26_7 (rd_T101 a0.f3 x21).f1.f6.length d26_7, .string ((rd_T101 a0.f3 x21).f1.f7)]) rfl rfl rfl rfl rfl rfl (by kernel_rfl) (by simp [wrt]) (by simp [Value.oneCell']) ?_; clear HS; (try clear F); intro w29 HS; (try simp only [hpn, hpm] at HS); have F := HS.boxes; simp only [bxn] at F) | ((with_reducible refine gate_dst (N := 28) rfl ?_); refine ev_call rfl Tryd.func16 (by kernel_rfl) rfl #[.agg #[.string ((rd_T101 a0.f3 x21).f1.f0), .int .i64 ((rd_T101 a0.f3 x21).f1.f1), .int .i64 ((rd_T101 a0.f3 x21).f1.f2), .int .i64 ((rd_T101 a0.f3 x21).f1.f3), .int .i64 ((rd_T101 a0.f3 x21).f1.f4), .int .i64 ((rd_T101 a0.f3 x21).f1.f5), .slice B26_7 (rd_T101 a0.f3 x21).f1.f6.length d26_7, .string ((rd_T101 a0.f3 x21).f1.f7)]] rfl (by simp only [mpn]; rfl) ?_; refine (impl_ShowReply.calls ht31.out (HS.ro y26_7) m26_7 (HS.keept hgT)).mono ?_; rintro _ wt31 ⟨rfl, HQ⟩; refine ⟨_, rfl, ?_⟩; replace HS := HS.call HQ; clear HQ; (try clear F); (try simp only [hpn, hpm] at HS); have F := HS.boxes; simp only [bxn] at F) | ((with_reducible refine gate_dst (N := 29) rfl ?_); refine ev_val rfl (run_cat rfl rfl rfl (of_eq_true c33)) ?_))
   go_roundg k19
   case measure => have := HKk19.out; omega
   case rel => exact ⟨_, _, rfl, rfl, H, ⟨by have := HKk19.out; omega⟩, HS.pick [0] (by decide) (by rfl)⟩
/-! ### laws_eqIntS: function 54 -/
def laws_eqIntS.l0 : Nat → Int → (List Int) → (List Int) → Option (Bool)
  | 0, _, _, _ => none
  | k + 1, x5, a0, a1 => (if x5 < (a0.length : Int) then (if 0 ≤ x5 then (if x5 < (a0.length : Int) then (if x5 < (a1.length : Int) then (if (rd a0 x5) = (rd a1 x5) then (laws_eqIntS.l0 k (wrap64 (x5 + 1)) a0 a1) else (some false)) else none) else none) else none) else (some true))
def laws_eqIntS.f (k : Nat) (a0 : (List Int)) (a1 : (List Int)) : Option (Bool) := (if (a0.length : Int) = (a1.length : Int) then (laws_eqIntS.l0 k 0 a0 a1) else (some false))
def laws_eqIntS.T6 : Bool × List (List Nat × List Nat) := (true, [([], []), ([], []), ([0, 1], [0, 1]), ([2], [2]), ([], []), ([], []), ([4, 5], [4, 5]), ([6], [6]), ([3, 7], [3, 7])])
theorem laws_eqIntS.tT6 : rtab .any (opsOf Tryd.f54 6) = laws_eqIntS.T6 := by kernel_rfl
set_option maxHeartbeats 16000000 in
theorem laws_eqIntS.calls {k : Nat} {a0 : (List Int)} {a1 : (List Int)} {Ap0 : Option Addr} {np0 cp0 : Nat} {Ap1 : Option Addr} {np1 cp1 : Nat} {r : Bool} {w : World} (h : laws_eqIntS.f k a0 a1 = some r) (gp0 : (Kd.int .i64).C w Ap0 np0 a0) (lp0 : np0 ≤ cp0) (gp1 : (Kd.int .i64).C w Ap1 np1 a1) (lp1 : np1 ≤ cp1) :
    Calls Tryd.prog 54 #[.slice Ap0 np0 cp0, .slice Ap1 np1 cp1] w (fun e w' => e = .returned (.bool r) ∧ Hp noFP w w' []) := by
 obtain rfl := C_len gp0
 obtain rfl := C_len gp1
 have HS := Hp.start w
 have H := Aside0.mk h
 clear h
 unfold laws_eqIntS.f at H
 go_enter Tryd.func54, Tryd.ntmps54
 by_cases c1 : (a0.length : Int) = (a1.length : Int)
 case neg =>
  replace H := zneg c1 H
  have c1a := beq_eq_false_iff_ne.mpr c1
  have c1b := bne_iff_ne.mpr c1
  clear c1
  obtain rfl := zsome H
  go_wp2
  go_ret
  exact ⟨rfl, HS.pick [] (by decide) (by rfl)⟩
 replace H := zpos c1 H
 have c1a := beq_iff_eq.mpr c1
 have c1b := bne_eq_false_iff_eq.mpr c1
 clear c1
 go_wp2
 go_loopg [5] k (fun kq v_5 w' => ∃ (x5 : Int), v_5 = .int .i64 x5 ∧ Aside0 (laws_eqIntS.l0 kq x5 a0 a1 = some r) ∧ Aside0 (kq ≤ k) ∧ Hp noFP w w' [])
 case atStart => exact ⟨_, rfl, H, ⟨Nat.le_refl _⟩, HS⟩
 case round =>
  clear HS H; (try clear F)
  obtain ⟨x5, rfl, H, HKk4, HS⟩ := hrel
  cases gk with
  | zero => exact absurd H.out (by simp [laws_eqIntS.l0])
  | succ k4 =>
   simp only [laws_eqIntS.l0] at H
   by_cases c7 : x5 < (a0.length : Int)
   case neg =>
    replace H := zneg c7 H
    replace c7 := eq_false c7
    obtain rfl := zsome H
    go_wp2
    go_ret
    exact ⟨rfl, HS.pick [] (by decide) (by rfl)⟩
   replace H := zpos c7 H
   replace c7 := eq_true c7
   (try go_wp2)
   by_cases c102001 : 0 ≤ x5
   case neg => exact zno c102001 H
   replace H := zpos c102001 H
   replace c102001 := eq_true c102001
   by_cases c102002 : x5 < (a0.length : Int)
   case neg => exact zno c102002 H
   replace H := zpos c102002 H
   replace c102002 := eq_true c102002
   obtain ⟨ad102999, rfl, e102999_0⟩ := Kd.at_int gp0 x5 (of_eq_true c102001) (of_eq_true c102002)
   by_cases c106001 : x5 < (a1.length : Int)
   case neg => exact zno c106001 H
   replace H := zpos c106001 H
   replace c106001 := eq_true c106001
   obtain ⟨ad106999, rfl, e106999_0⟩ := Kd.at_int gp1 x5 (of_eq_true c102001) (of_eq_true c106001)
   refine dr_start [] HS #[false, false, false, false, false, false, false, false, false] (by kernel_rfl) rfl rfl laws_eqIntS.tT6 (fun w9 HT HS HH => ?_)
   (try clear F)
   refine drq_of [(0, some 17), (1, some 18), (2, some 19)] ?_
   repeat (first | (refine drq_pure HT (v := ?_) (a' := ?_) rfl rfl (by kernel_rfl) (fun _ _ _ h => h) (.inl ⟨by rfl, ?_⟩) ?_ ?_; rotate_left; (intro w'; go_simp; with_reducible rfl); rotate_left; (simp only [Act.put, ptn]; rfl)))
   refine drq_end ?_
   refine dr_take 3 (some 20) HT HH (v := ?_) (a' := ?_) rfl rfl (by kernel_rfl) (fun _ _ _ h => h) (.inl ⟨by rfl, ?_⟩) ?_ ?_
   rotate_left
   · rintro w' ⟨rs', HS'⟩; have e102999_0 := (HS'.keepc e102999_0); go_simp; with_reducible rfl
   rotate_left
   · simp only [Act.put, ptn]; rfl
   refine drq_of [(4, some 21), (5, some 22), (6, some 23)] ?_
   repeat (first | (refine drq_pure HT (v := ?_) (a' := ?_) rfl rfl (by kernel_rfl) (fun _ _ _ h => h) (.inl ⟨by rfl, ?_⟩) ?_ ?_; rotate_left; (intro w'; go_simp; with_reducible rfl); rotate_left; (simp only [Act.put, ptn]; rfl)))
   refine drq_end ?_
   refine dr_take 7 (some 24) HT HH (v := ?_) (a' := ?_) rfl rfl (by kernel_rfl) (fun _ _ _ h => h) (.inl ⟨by rfl, ?_⟩) ?_ ?_
   rotate_left
   · rintro w' ⟨rs', HS'⟩; have e106999_0 := (HS'.keepc e106999_0); go_simp; with_reducible rfl
   rotate_left
   · simp only [Act.put, ptn]; rfl
   refine drq_of [(8, some 25)] ?_
   repeat (first | (refine drq_pure HT (v := ?_) (a' := ?_) rfl rfl (by kernel_rfl) (fun _ _ _ h => h) (.inl ⟨by rfl, ?_⟩) ?_ ?_; rotate_left; (intro w'; go_simp; with_reducible rfl); rotate_left; (simp only [Act.put, ptn]; rfl)))
   refine drq_end ?_
   refine done_ (done_of HT.out (by kernel_rfl)) ?_
   by_cases c11 : (rd a0 x5) = (rd a1 x5)
   case neg =>
    replace H := zneg c11 H
    have c11a := beq_eq_false_iff_ne.mpr c11
    have c11b := bne_iff_ne.mpr c11
    clear c11
    (try simp only [c11a, c11b, dcn])
    obtain rfl := zsome H
    go_wp2
    go_ret
    exact ⟨rfl, HS.pick [] (by decide) (by rfl)⟩
   replace H := zpos c11 H
   have c11a := beq_iff_eq.mpr c11
   have c11b := bne_eq_false_iff_eq.mpr c11
   clear c11
   (try simp only [c11a, c11b, dcn])
   go_wp2
   go_roundg k4
   case measure => have := HKk4.out; omega
   case rel => exact ⟨_, rfl, H, ⟨by have := HKk4.out; omega⟩, HS.pick [] (by decide) (by rfl)⟩
/-! ### laws_eqWait: function 94 -/
def laws_eqWait.f (a0 : S130) (a1 : S130) : Option (Bool) := (if a0.f0 = a1.f0 then (if a0.f1 = a1.f1 then (if a0.f2.toList = a1.f2.toList then (if a0.f3 = a1.f3 then (some true) else (some false)) else (some false)) else (some false)) else (some false))
set_option maxHeartbeats 16000000 in
theorem laws_eqWait.calls {a0 : S130} {a1 : S130} {r : Bool} {w : World} (h : laws_eqWait.f a0 a1 = some r) :
    Calls Tryd.prog 94 #[.agg #[.int .i64 a0.f0, .int .i64 a0.f1, .string a0.f2, .int .i64 a0.f3], .agg #[.int .i64 a1.f0, .int .i64 a1.f1, .string a1.f2, .int .i64 a1.f3]] w (fun e w' => e = .returned (.bool r) ∧ Hp noFP w w' []) := by
 have HS := Hp.start w
 have H := Aside0.mk h
 clear h
 unfold laws_eqWait.f at H
 go_enter Tryd.func94, Tryd.ntmps94
 go_upto_if 9 with (first | ((with_reducible refine gate_dst (N := 2) rfl ?_); refine ev_box rfl HS (by first | (go_simp; done) | (go_simp; rfl)) rfl ?_; clear HS; (try clear F); intro g2 w2 HS; (try simp only [hpn, hpm] at HS); have F := HS.boxes; simp only [bxn] at F) | ((with_reducible refine gate_dst (N := 3) rfl ?_); refine ev_box rfl HS (by first | (go_simp; done) | (go_simp; rfl)) rfl ?_; clear HS; (try clear F); intro g3 w3 HS; (try simp only [hpn, hpm] at HS); have F := HS.boxes; simp only [bxn] at F))
 by_cases c5 : a0.f0 = a1.f0
 case neg =>
  replace H := zneg c5 H
  have c5a := beq_eq_false_iff_ne.mpr c5
  have c5b := bne_iff_ne.mpr c5
  clear c5
  (try simp only [c5a, c5b, dcn])
  obtain rfl := zsome H
  go_wp2
  go_ret
  exact ⟨rfl, HS.pick [] (by decide) (by rfl)⟩
 replace H := zpos c5 H
 have c5a := beq_iff_eq.mpr c5
 have c5b := bne_eq_false_iff_eq.mpr c5
 clear c5
 (try simp only [c5a, c5b, dcn])
 by_cases c6 : a0.f1 = a1.f1
 case neg =>
  replace H := zneg c6 H
  have c6a := beq_eq_false_iff_ne.mpr c6
  have c6b := bne_iff_ne.mpr c6
  clear c6
  obtain rfl := zsome H
  go_wp2
  go_ret
  exact ⟨rfl, HS.pick [] (by decide) (by rfl)⟩
 replace H := zpos c6 H
 have c6a := beq_iff_eq.mpr c6
 have c6b := bne_eq_false_iff_eq.mpr c6
 clear c6
 by_cases c7 : a0.f2.toList = a1.f2.toList
 case neg =>
  replace H := zneg c7 H
  have c7a := beq_eq_false_iff_ne.mpr c7
  have c7b := bne_iff_ne.mpr c7
  clear c7
  obtain rfl := zsome H
  go_wp2
  go_ret
  exact ⟨rfl, HS.pick [] (by decide) (by rfl)⟩
 replace H := zpos c7 H
 have c7a := beq_iff_eq.mpr c7
 have c7b := bne_eq_false_iff_eq.mpr c7
 clear c7
 by_cases c8 : a0.f3 = a1.f3
 case neg =>
  replace H := zneg c8 H
  have c8a := beq_eq_false_iff_ne.mpr c8
  have c8b := bne_iff_ne.mpr c8
  clear c8
  obtain rfl := zsome H
  go_wp2
  go_ret
  exact ⟨rfl, HS.pick [] (by decide) (by rfl)⟩
 replace H := zpos c8 H
 have c8a := beq_iff_eq.mpr c8
 have c8b := bne_eq_false_iff_eq.mpr c8
 clear c8
 obtain rfl := zsome H
 go_wp2
 go_ret
 exact ⟨rfl, HS.pick [] (by decide) (by rfl)⟩
/-! ### laws_eqWaitS: function 67 -/
def laws_eqWaitS.l0 : Nat → Int → (List S130) → (List S130) → Option (Bool)
  | 0, _, _, _ => none
  | k + 1, x5, a0, a1 => (if x5 < (a0.length : Int) then (if 0 ≤ x5 then (if x5 < (a0.length : Int) then (if x5 < (a1.length : Int) then ((laws_eqWait.f (rd_T130 a0 x5) (rd_T130 a1 x5)).bind fun t108001 => (if t108001 = true then (laws_eqWaitS.l0 k (wrap64 (x5 + 1)) a0 a1) else (some false))) else none) else none) else none) else (some true))
def laws_eqWaitS.f (k : Nat) (a0 : (List S130)) (a1 : (List S130)) : Option (Bool) := (if (a0.length : Int) = (a1.length : Int) then (laws_eqWaitS.l0 k 0 a0 a1) else (some false))
def laws_eqWaitS.T6 : Bool × List (List Nat × List Nat) := (true, [([], []), ([], []), ([0, 1], [0, 1]), ([2], [2]), ([], []), ([], []), ([4, 5], [4, 5]), ([6], [6]), ([3, 7], [3, 7]), ([8], [8])])
theorem laws_eqWaitS.tT6 : rtab .any (opsOf Tryd.f67 6) = laws_eqWaitS.T6 := by kernel_rfl
set_option maxHeartbeats 16000000 in
theorem laws_eqWaitS.calls {k : Nat} {a0 : (List S130)} {a1 : (List S130)} {Ap0 : Option Addr} {np0 cp0 : Nat} {Ap1 : Option Addr} {np1 cp1 : Nat} {r : Bool} {w : World} (h : laws_eqWaitS.f k a0 a1 = some r) (gp0 : k130.C w Ap0 np0 a0) (lp0 : np0 ≤ cp0) (gp1 : k130.C w Ap1 np1 a1) (lp1 : np1 ≤ cp1) :
    Calls Tryd.prog 67 #[.slice Ap0 np0 cp0, .slice Ap1 np1 cp1] w (fun e w' => e = .returned (.bool r) ∧ Hp noFP w w' []) := by
 obtain rfl := C_len gp0
 obtain rfl := C_len gp1
 have HS := Hp.start w
 have H := Aside0.mk h
 clear h
 unfold laws_eqWaitS.f at H
 go_enter Tryd.func67, Tryd.ntmps67
 by_cases c1 : (a0.length : Int) = (a1.length : Int)
 case neg =>
  replace H := zneg c1 H
  have c1a := beq_eq_false_iff_ne.mpr c1
  have c1b := bne_iff_ne.mpr c1
  clear c1
  obtain rfl := zsome H
  go_wp2
  go_ret
  exact ⟨rfl, HS.pick [] (by decide) (by rfl)⟩
 replace H := zpos c1 H
 have c1a := beq_iff_eq.mpr c1
 have c1b := bne_eq_false_iff_eq.mpr c1
 clear c1
 go_wp2
 go_loopg [5] k (fun kq v_5 w' => ∃ (x5 : Int), v_5 = .int .i64 x5 ∧ Aside0 (laws_eqWaitS.l0 kq x5 a0 a1 = some r) ∧ Aside0 (kq ≤ k) ∧ Hp noFP w w' [])
 case atStart => exact ⟨_, rfl, H, ⟨Nat.le_refl _⟩, HS⟩
 case round =>
  clear HS H; (try clear F)
  obtain ⟨x5, rfl, H, HKk4, HS⟩ := hrel
  cases gk with
  | zero => exact absurd H.out (by simp [laws_eqWaitS.l0])
  | succ k4 =>
   simp only [laws_eqWaitS.l0] at H
   by_cases c7 : x5 < (a0.length : Int)
   case neg =>
    replace H := zneg c7 H
    replace c7 := eq_false c7
    obtain rfl := zsome H
    go_wp2
    go_ret
    exact ⟨rfl, HS.pick [] (by decide) (by rfl)⟩
   replace H := zpos c7 H
   replace c7 := eq_true c7
   (try go_wp2)
   by_cases c102001 : 0 ≤ x5
   case neg => exact zno c102001 H
   replace H := zpos c102001 H
   replace c102001 := eq_true c102001
   by_cases c102002 : x5 < (a0.length : Int)
   case neg => exact zno c102002 H
   replace H := zpos c102002 H
   replace c102002 := eq_true c102002
   obtain ⟨ad102999, rfl, e102999_0, e102999_1, e102999_2, e102999_3⟩ := at_T130 gp0 x5 (of_eq_true c102001) (of_eq_true c102002)
   by_cases c106001 : x5 < (a1.length : Int)
   case neg => exact zno c106001 H
   replace H := zpos c106001 H
   replace c106001 := eq_true c106001
   obtain ⟨ad106999, rfl, e106999_0, e106999_1, e106999_2, e106999_3⟩ := at_T130 gp1 x5 (of_eq_true c102001) (of_eq_true c106001)
   replace H := zbind H; obtain ⟨t108001, ht108001, H⟩ := H
   refine dr_start [] HS #[false, false, false, false, false, false, false, false, false, false] (by kernel_rfl) rfl rfl laws_eqWaitS.tT6 (fun w9 HT HS HH => ?_)
   (try clear F)
   refine drq_of [(0, some 17), (1, some 18), (2, some 19)] ?_
   repeat (first | (refine drq_pure HT (v := ?_) (a' := ?_) rfl rfl (by kernel_rfl) (fun _ _ _ h => h) (.inl ⟨by rfl, ?_⟩) ?_ ?_; rotate_left; (intro w'; go_simp; with_reducible rfl); rotate_left; (simp only [Act.put, ptn]; rfl)))
   refine drq_end ?_
   refine dr_take 3 (some 20) HT HH (v := ?_) (a' := ?_) rfl rfl (by kernel_rfl) (fun _ _ _ h => h) (.inl ⟨by rfl, ?_⟩) ?_ ?_
   rotate_left
   · rintro w' ⟨rs', HS'⟩; have e102999_0 := (HS'.keepc e102999_0); have e102999_1 := (HS'.keepc e102999_1); have e102999_2 := (HS'.keepc e102999_2); have e102999_3 := (HS'.keepc e102999_3); go_simp; with_reducible rfl
   rotate_left
   · simp only [Act.put, ptn]; rfl
   refine drq_of [(4, some 21), (5, some 22), (6, some 23)] ?_
   repeat (first | (refine drq_pure HT (v := ?_) (a' := ?_) rfl rfl (by kernel_rfl) (fun _ _ _ h => h) (.inl ⟨by rfl, ?_⟩) ?_ ?_; rotate_left; (intro w'; go_simp; with_reducible rfl); rotate_left; (simp only [Act.put, ptn]; rfl)))
   refine drq_end ?_
   refine dr_take 7 (some 24) HT HH (v := ?_) (a' := ?_) rfl rfl (by kernel_rfl) (fun _ _ _ h => h) (.inl ⟨by rfl, ?_⟩) ?_ ?_
   rotate_left
   · rintro w' ⟨rs', HS'⟩; have e106999_0 := (HS'.keepc e106999_0); have e106999_1 := (HS'.keepc e106999_1); have e106999_2 := (HS'.keepc e106999_2); have e106999_3 := (HS'.keepc e106999_3); go_simp; with_reducible rfl
   rotate_left
   · simp only [Act.put, ptn]; rfl
   refine dr_one 8 HT rfl (by kernel_rfl) (by decide) (fun K hK => ?_)
   refine goes_ Tryd.func94 (by kernel_rfl) rfl #[.agg #[.int .i64 ((rd_T130 a0 x5).f0), .int .i64 ((rd_T130 a0 x5).f1), .string ((rd_T130 a0 x5).f2), .int .i64 ((rd_T130 a0 x5).f3)], .agg #[.int .i64 ((rd_T130 a1 x5).f0), .int .i64 ((rd_T130 a1 x5).f1), .string ((rd_T130 a1 x5).f2), .int .i64 ((rd_T130 a1 x5).f3)]] (by rfl) rfl rfl (by simp only [mpn]; rfl) ?_; refine (laws_eqWait.calls ht108001.out).mono ?_; rintro _ wt108001 ⟨rfl, HQ⟩; refine ⟨_, rfl, ?_⟩; replace HS := HS.call HQ; clear HQ; (try clear F)
   (try simp only [hpn, hpm] at HS)
   refine hK.out _ _ ⟨_, HS⟩ (fun HH => ?_)
   clear hK K
   refine norm_ (a' := ?_) ?_ ?_
   rotate_left
   · show Act.put _ (some 25) _ = _; simp only [Act.put, ptn]; rfl
   refine drq_of [(9, some 26)] ?_
   repeat (first | (refine drq_pure HT (v := ?_) (a' := ?_) rfl rfl (by kernel_rfl) (fun _ _ _ h => h) (.inl ⟨by rfl, ?_⟩) ?_ ?_; rotate_left; (intro w'; go_simp; with_reducible rfl); rotate_left; (simp only [Act.put, ptn]; rfl)))
   refine drq_end ?_
   refine done_ (done_of HT.out (by kernel_rfl)) ?_
   by_cases c11 : t108001 = true
   case neg =>
    replace H := zneg c11 H
    replace c11 := eq_false_of_ne_true c11
    subst c11
    (try simp only [dcn, if_true, Bool.false_eq_true, if_false])
    obtain rfl := zsome H
    go_wp2
    go_ret
    exact ⟨rfl, HS.pick [] (by decide) (by rfl)⟩
   replace H := zpos c11 H
   subst c11
   (try simp only [dcn, if_true, Bool.false_eq_true, if_false])
   go_wp2
   go_roundg k4
   case measure => have := HKk4.out; omega
   case rel => exact ⟨_, rfl, H, ⟨by have := HKk4.out; omega⟩, HS.pick [] (by decide) (by rfl)⟩
/-! ### laws_eqStringS: function 55 -/
def laws_eqStringS.l0 : Nat → Int → (List ByteArray) → (List ByteArray) → Option (Bool)
  | 0, _, _, _ => none
  | k + 1, x5, a0, a1 => (if x5 < (a0.length : Int) then (if 0 ≤ x5 then (if x5 < (a0.length : Int) then (if x5 < (a1.length : Int) then (if (rdOf ByteArray.empty a0 x5).toList = (rdOf ByteArray.empty a1 x5).toList then (laws_eqStringS.l0 k (wrap64 (x5 + 1)) a0 a1) else (some false)) else none) else none) else none) else (some true))
def laws_eqStringS.f (k : Nat) (a0 : (List ByteArray)) (a1 : (List ByteArray)) : Option (Bool) := (if (a0.length : Int) = (a1.length : Int) then (laws_eqStringS.l0 k 0 a0 a1) else (some false))
def laws_eqStringS.T6 : Bool × List (List Nat × List Nat) := (true, [([], []), ([], []), ([0, 1], [0, 1]), ([2], [2]), ([], []), ([], []), ([4, 5], [4, 5]), ([6], [6]), ([3, 7], [3, 7])])
theorem laws_eqStringS.tT6 : rtab .any (opsOf Tryd.f55 6) = laws_eqStringS.T6 := by kernel_rfl
set_option maxHeartbeats 16000000 in
theorem laws_eqStringS.calls {k : Nat} {a0 : (List ByteArray)} {a1 : (List ByteArray)} {Ap0 : Option Addr} {np0 cp0 : Nat} {Ap1 : Option Addr} {np1 cp1 : Nat} {r : Bool} {w : World} (h : laws_eqStringS.f k a0 a1 = some r) (gp0 : Kd.string.C w Ap0 np0 a0) (lp0 : np0 ≤ cp0) (gp1 : Kd.string.C w Ap1 np1 a1) (lp1 : np1 ≤ cp1) :
    Calls Tryd.prog 55 #[.slice Ap0 np0 cp0, .slice Ap1 np1 cp1] w (fun e w' => e = .returned (.bool r) ∧ Hp noFP w w' []) := by
 obtain rfl := C_len gp0
 obtain rfl := C_len gp1
 have HS := Hp.start w
 have H := Aside0.mk h
 clear h
 unfold laws_eqStringS.f at H
 go_enter Tryd.func55, Tryd.ntmps55
 by_cases c1 : (a0.length : Int) = (a1.length : Int)
 case neg =>
  replace H := zneg c1 H
  have c1a := beq_eq_false_iff_ne.mpr c1
  have c1b := bne_iff_ne.mpr c1
  clear c1
  obtain rfl := zsome H
  go_wp2
  go_ret
  exact ⟨rfl, HS.pick [] (by decide) (by rfl)⟩
 replace H := zpos c1 H
 have c1a := beq_iff_eq.mpr c1
 have c1b := bne_eq_false_iff_eq.mpr c1
 clear c1
 go_wp2
 go_loopg [5] k (fun kq v_5 w' => ∃ (x5 : Int), v_5 = .int .i64 x5 ∧ Aside0 (laws_eqStringS.l0 kq x5 a0 a1 = some r) ∧ Aside0 (kq ≤ k) ∧ Hp noFP w w' [])
 case atStart => exact ⟨_, rfl, H, ⟨Nat.le_refl _⟩, HS⟩
 case round =>
  clear HS H; (try clear F)
  obtain ⟨x5, rfl, H, HKk4, HS⟩ := hrel
  cases gk with
  | zero => exact absurd H.out (by simp [laws_eqStringS.l0])
  | succ k4 =>
   simp only [laws_eqStringS.l0] at H
   by_cases c7 : x5 < (a0.length : Int)
   case neg =>
    replace H := zneg c7 H
    replace c7 := eq_false c7
    obtain rfl := zsome H
    go_wp2
    go_ret
    exact ⟨rfl, HS.pick [] (by decide) (by rfl)⟩
   replace H := zpos c7 H
   replace c7 := eq_true c7
   (try go_wp2)
   by_cases c102001 : 0 ≤ x5
   case neg => exact zno c102001 H
   replace H := zpos c102001 H
   replace c102001 := eq_true c102001
   by_cases c102002 : x5 < (a0.length : Int)
   case neg => exact zno c102002 H
   replace H := zpos c102002 H
   replace c102002 := eq_true c102002
   obtain ⟨ad102999, rfl, e102999_0⟩ := Kd.at_string gp0 x5 (of_eq_true c102001) (of_eq_true c102002)
   by_cases c106001 : x5 < (a1.length : Int)
   case neg => exact zno c106001 H
   replace H := zpos c106001 H
   replace c106001 := eq_true c106001
   obtain ⟨ad106999, rfl, e106999_0⟩ := Kd.at_string gp1 x5 (of_eq_true c102001) (of_eq_true c106001)
   refine dr_start [] HS #[false, false, false, false, false, false, false, false, false] (by kernel_rfl) rfl rfl laws_eqStringS.tT6 (fun w9 HT HS HH => ?_)
   (try clear F)
   refine drq_of [(0, some 17), (1, some 18), (2, some 19)] ?_
   repeat (first | (refine drq_pure HT (v := ?_) (a' := ?_) rfl rfl (by kernel_rfl) (fun _ _ _ h => h) (.inl ⟨by rfl, ?_⟩) ?_ ?_; rotate_left; (intro w'; go_simp; with_reducible rfl); rotate_left; (simp only [Act.put, ptn]; rfl)))
   refine drq_end ?_
   refine dr_take 3 (some 20) HT HH (v := ?_) (a' := ?_) rfl rfl (by kernel_rfl) (fun _ _ _ h => h) (.inl ⟨by rfl, ?_⟩) ?_ ?_
   rotate_left
   · rintro w' ⟨rs', HS'⟩; have e102999_0 := (HS'.keepc e102999_0); go_simp; with_reducible rfl
   rotate_left
   · simp only [Act.put, ptn]; rfl
   refine drq_of [(4, some 21), (5, some 22), (6, some 23)] ?_
   repeat (first | (refine drq_pure HT (v := ?_) (a' := ?_) rfl rfl (by kernel_rfl) (fun _ _ _ h => h) (.inl ⟨by rfl, ?_⟩) ?_ ?_; rotate_left; (intro w'; go_simp; with_reducible rfl); rotate_left; (simp only [Act.put, ptn]; rfl)))
   refine drq_end ?_
   refine dr_take 7 (some 24) HT HH (v := ?_) (a' := ?_) rfl rfl (by kernel_rfl) (fun _ _ _ h => h) (.inl ⟨by rfl, ?_⟩) ?_ ?_
   rotate_left
   · rintro w' ⟨rs', HS'⟩; have e106999_0 := (HS'.keepc e106999_0); go_simp; with_reducible rfl
   rotate_left
   · simp only [Act.put, ptn]; rfl
   refine drq_of [(8, some 25)] ?_
   repeat (first | (refine drq_pure HT (v := ?_) (a' := ?_) rfl rfl (by kernel_rfl) (fun _ _ _ h => h) (.inl ⟨by rfl, ?_⟩) ?_ ?_; rotate_left; (intro w'; go_simp; with_reducible rfl); rotate_left; (simp only [Act.put, ptn]; rfl)))
   refine drq_end ?_
   refine done_ (done_of HT.out (by kernel_rfl)) ?_
   by_cases c11 : (rdOf ByteArray.empty a0 x5).toList = (rdOf ByteArray.empty a1 x5).toList
   case neg =>
    replace H := zneg c11 H
    have c11a := beq_eq_false_iff_ne.mpr c11
    have c11b := bne_iff_ne.mpr c11
    clear c11
    (try simp only [c11a, c11b, dcn])
    obtain rfl := zsome H
    go_wp2
    go_ret
    exact ⟨rfl, HS.pick [] (by decide) (by rfl)⟩
   replace H := zpos c11 H
   have c11a := beq_iff_eq.mpr c11
   have c11b := bne_eq_false_iff_eq.mpr c11
   clear c11
   (try simp only [c11a, c11b, dcn])
   go_wp2
   go_roundg k4
   case measure => have := HKk4.out; omega
   case rel => exact ⟨_, rfl, H, ⟨by have := HKk4.out; omega⟩, HS.pick [] (by decide) (by rfl)⟩
/-! ### laws_eqAnswer: function 77 -/
def laws_eqAnswer.f (k : Nat) (a0 : S80) (a1 : S80) : Option (Bool) := (if a0.f0 = a1.f0 then (if a0.f1 = a1.f1 then ((laws_eqStringS.f k a0.f2 a1.f2).bind fun t7 => (if t7 = true then ((laws_eqStringS.f k a0.f3 a1.f3).bind fun t10 => (if t10 = true then (some true) else (some false))) else (some false))) else (some false)) else (some false))
set_option maxHeartbeats 16000000 in
theorem laws_eqAnswer.calls {k : Nat} {a0 : S80} {a1 : S80} {Ap0 : Option Addr} {np0 cp0 : Nat} {Ap1 : Option Addr} {np1 cp1 : Nat} {Ap2 : Option Addr} {np2 cp2 : Nat} {Ap3 : Option Addr} {np3 cp3 : Nat} {r : Bool} {w : World} (h : laws_eqAnswer.f k a0 a1 = some r) (gp0 : Kd.string.C w Ap0 np0 a0.f2) (lp0 : np0 ≤ cp0) (gp1 : Kd.string.C w Ap1 np1 a0.f3) (lp1 : np1 ≤ cp1) (gp2 : Kd.string.C w Ap2 np2 a1.f2) (lp2 : np2 ≤ cp2) (gp3 : Kd.string.C w Ap3 np3 a1.f3) (lp3 : np3 ≤ cp3) :
    Calls Tryd.prog 77 #[.agg #[.int .i64 a0.f0, .int .i64 a0.f1, .slice Ap0 np0 cp0, .slice Ap1 np1 cp1], .agg #[.int .i64 a1.f0, .int .i64 a1.f1, .slice Ap2 np2 cp2, .slice Ap3 np3 cp3]] w (fun e w' => e = .returned (.bool r) ∧ Hp noFP w w' []) := by
 obtain rfl := C_len gp0
 obtain rfl := C_len gp1
 obtain rfl := C_len gp2
 obtain rfl := C_len gp3
 have HS := Hp.start w
 have H := Aside0.mk h
 clear h
 unfold laws_eqAnswer.f at H
 go_enter Tryd.func77, Tryd.ntmps77
 go_upto_if 9 with (first | ((with_reducible refine gate_dst (N := 2) rfl ?_); refine ev_box rfl HS (by first | (go_simp; done) | (go_simp; rfl)) rfl ?_; clear HS; (try clear F); intro g2 w2 HS; (try simp only [hpn, hpm] at HS); have F := HS.boxes; simp only [bxn] at F) | ((with_reducible refine gate_dst (N := 3) rfl ?_); refine ev_box rfl HS (by first | (go_simp; done) | (go_simp; rfl)) rfl ?_; clear HS; (try clear F); intro g3 w3 HS; (try simp only [hpn, hpm] at HS); have F := HS.boxes; simp only [bxn] at F))
 by_cases c5 : a0.f0 = a1.f0
 case neg =>
  replace H := zneg c5 H
  have c5a := beq_eq_false_iff_ne.mpr c5
  have c5b := bne_iff_ne.mpr c5
  clear c5
  (try simp only [c5a, c5b, dcn])
  obtain rfl := zsome H
  go_wp2
  go_ret
  exact ⟨rfl, HS.pick [] (by decide) (by rfl)⟩
 replace H := zpos c5 H
 have c5a := beq_iff_eq.mpr c5
 have c5b := bne_eq_false_iff_eq.mpr c5
 clear c5
 (try simp only [c5a, c5b, dcn])
 by_cases c6 : a0.f1 = a1.f1
 case neg =>
  replace H := zneg c6 H
  have c6a := beq_eq_false_iff_ne.mpr c6
  have c6b := bne_iff_ne.mpr c6
  clear c6
  obtain rfl := zsome H
  go_wp2
  go_ret
  exact ⟨rfl, HS.pick [] (by decide) (by rfl)⟩
 replace H := zpos c6 H
 have c6a := beq_iff_eq.mpr c6
 have c6b := bne_eq_false_iff_eq.mpr c6
 clear c6
 replace H := zbind H; obtain ⟨t7, ht7, H⟩ := H
 go_upto_if 20 with (first | ((with_reducible refine gate_dst (N := 19) rfl ?_); refine ev_call rfl Tryd.func55 (by kernel_rfl) rfl #[.slice Ap0 a0.f2.length cp0, .slice Ap2 a1.f2.length cp2] rfl (by simp only [mpn]; rfl) ?_; refine (laws_eqStringS.calls ht7.out (HS.ro gp0) lp0 (HS.ro gp2) lp2).mono ?_; rintro _ wt7 ⟨rfl, HQ⟩; refine ⟨_, rfl, ?_⟩; replace HS := HS.call HQ; clear HQ; (try clear F); (try simp only [hpn, hpm] at HS); have F := HS.boxes; simp only [bxn] at F))
 by_cases c9 : t7 = true
 case neg =>
  replace H := zneg c9 H
  replace c9 := eq_false_of_ne_true c9
  subst c9
  (try simp only [dcn, if_true, Bool.false_eq_true, if_false])
  obtain rfl := zsome H
  go_wp2
  go_ret
  exact ⟨rfl, HS.pick [] (by decide) (by rfl)⟩
 replace H := zpos c9 H
 subst c9
 (try simp only [dcn, if_true, Bool.false_eq_true, if_false])
 replace H := zbind H; obtain ⟨t10, ht10, H⟩ := H
 go_upto_if 26 with (first | ((with_reducible refine gate_dst (N := 25) rfl ?_); refine ev_call rfl Tryd.func55 (by kernel_rfl) rfl #[.slice Ap1 a0.f3.length cp1, .slice Ap3 a1.f3.length cp3] rfl (by simp only [mpn]; rfl) ?_; refine (laws_eqStringS.calls ht10.out (HS.ro gp1) lp1 (HS.ro gp3) lp3).mono ?_; rintro _ wt10 ⟨rfl, HQ⟩; refine ⟨_, rfl, ?_⟩; replace HS := HS.call HQ; clear HQ; (try clear F); (try simp only [hpn, hpm] at HS); have F := HS.boxes; simp only [bxn] at F))
 by_cases c12 : t10 = true
 case pos =>
  replace H := zpos c12 H
  subst c12
  (try simp only [dcn, if_true, Bool.false_eq_true, if_false])
  obtain rfl := zsome H
  go_wp2
  go_ret
  exact ⟨rfl, HS.pick [] (by decide) (by rfl)⟩
 replace H := zneg c12 H
 replace c12 := eq_false_of_ne_true c12
 subst c12
 (try simp only [dcn, if_true, Bool.false_eq_true, if_false])
 obtain rfl := zsome H
 go_wp2
 go_ret
 exact ⟨rfl, HS.pick [] (by decide) (by rfl)⟩
end Go.Proofs.YtnpokacipeobdaaDoor.F
