/- Functions of the program and of the law, and that their calls do what is written here. -/
import Derived.Test.YtdcjcanobiohnaaZgFnExactReplyTexta
namespace Go.Proofs.Ytdcjcanobiohnaa.F
open Go.RowKit Go.Proofs.YtdcjcanobiohnaaW.PrintWords Go.Proofs.YtdcjcanobiohnaaW.PrintLast Go.Proofs.YtdcjcanobiohnaaW.PrintMore Go.Proofs.Ytdcjcanobiohnaa.Z
attribute [local go_sem] max2_int min2_int max_two min_two max_three min_three max_four min_four
set_option linter.unusedVariables false
set_option linter.unusedSimpArgs false
set_option maxRecDepth 100000
/-! ### spec_l07Text: function 120 -/
mutual
def spec_l07Text.l0 : Nat → ByteArray → Int → S107 → Option (ByteArray)
  | 0, _, _, _ => none
  | k + 1, x11, x12, a0 => (if x12 < (a0.f2.length : Int) then (if 0 ≤ x12 then (if x12 < (a0.f2.length : Int) then ((spec_l07Text.f k (rd_T107 a0.f2 x12)).bind fun t18 => (if x11.size + t18.size ≤ 9223372036854775807 then (spec_l07Text.l0 k (x11 ++ t18) (wrap64 (x12 + 1)) a0) else none)) else none) else none) else ((spec_l07Length.f k (x11.size : Int)).bind fun t107001 => (if (strOfNums ([(a0.f0 % 256)] : List Int)).size + t107001.size ≤ 9223372036854775807 then (if ((strOfNums ([(a0.f0 % 256)] : List Int)) ++ t107001).size + x11.size ≤ 9223372036854775807 then (some (((strOfNums ([(a0.f0 % 256)] : List Int)) ++ t107001) ++ x11)) else none) else none)))
def spec_l07Text.f : Nat → S107 → Option (ByteArray)
  | 0, _ => none
  | k + 1, a0 => (if a0.f0 = 48 then (spec_l07Text.l0 k a0.f1 0 a0) else ((spec_l07Length.f k (a0.f1.size : Int)).bind fun t207001 => (if (strOfNums ([(a0.f0 % 256)] : List Int)).size + t207001.size ≤ 9223372036854775807 then (if ((strOfNums ([(a0.f0 % 256)] : List Int)) ++ t207001).size + a0.f1.size ≤ 9223372036854775807 then (some (((strOfNums ([(a0.f0 % 256)] : List Int)) ++ t207001) ++ a0.f1)) else none) else none)))
end
def spec_l07Text.T7 : Bool × List (List Nat × List Nat) := (true, [([], []), ([0], [0]), ([1], [1]), ([2], [2]), ([3], [3]), ([], []), ([5], [5]), ([6], [6]), ([4, 7], [4, 7]), ([], []), ([8, 9], [8, 9]), ([10, 7, 0, 1, 2, 3, 4, 5, 6, 7, 8, 9, 10], [10])])
theorem spec_l07Text.tT7 : rtab .any (opsOf Try.f120 7) = spec_l07Text.T7 := by kernel_rfl
set_option maxHeartbeats 16000000 in
theorem spec_l07Text.calls_ (K : Nat) : ∀ {k : Nat} (hK : k ≤ K) {a0 : S107} {Ap0 : Option Addr} {np0 cp0 : Nat} {r : ByteArray} {w : World} (h : spec_l07Text.f k a0 = some r) (gp0 : k107.C w Ap0 np0 a0.f2) (lp0 : np0 ≤ cp0),
    Calls Try.prog 120 #[.agg #[.int .i64 a0.f0, .string a0.f1, .slice Ap0 np0 cp0]] w (fun e w' => e = .returned (.string r) ∧ Hp noFP w w' []) := by
  induction K with
  | zero =>
    intro k hK a0 Ap0 np0 cp0 r w h gp0 lp0
    obtain rfl : k = 0 := by omega
    exact absurd h (by simp [spec_l07Text.f])
  | succ K IH =>
    intro k hK a0 Ap0 np0 cp0 r w h gp0 lp0
    cases k with
    | zero => exact absurd h (by simp [spec_l07Text.f])
    | succ k =>
    have HK0 : Aside0 (k ≤ K) := ⟨by omega⟩
    clear hK
    obtain rfl := C_len gp0
    have HS := Hp.start w
    have H := Aside0.mk h
    clear h
    simp only [spec_l07Text.f] at H
    go_enter Try.func120, Try.ntmps120
    go_upto_if 9 with (first | ((with_reducible refine gate_dst (N := 1) rfl ?_); refine ev_box rfl HS (by first | (go_simp; done) | (go_simp; rfl)) rfl ?_; clear HS; (try clear F); intro g1 w1 HS; replace HS : Hp noFP w _ [.box g1 [.int .i64 a0.f0, .string a0.f1, .slice Ap0 a0.f2.length cp0] 107] := HS; have F := HS.boxes; simp only [boxFacts, and_true] at F))
    by_cases c3 : a0.f0 = 48
    · replace H := zpos c3 H
      have c3a := beq_iff_eq.mpr c3
      have c3b := bne_eq_false_iff_eq.mpr c3
      clear c3
      (try simp only [c3a, c3b, decide_true, decide_false, Bool.not_true, Bool.not_false])
      go_wp2
      go_loopg [3, 4] k (fun kq v_3 v_4 w' => ∃ (x11 : ByteArray) (x12 : Int), v_3 = .string x11 ∧ v_4 = .int .i64 x12 ∧ Aside0 (spec_l07Text.l0 kq x11 x12 a0 = some r) ∧ Aside0 (kq ≤ k) ∧ Hp noFP w w' [.box g1 [.int .i64 a0.f0, .string a0.f1, .slice Ap0 a0.f2.length cp0] 107])
      case atStart => exact ⟨_, _, rfl, rfl, H, ⟨Nat.le_refl _⟩, HS⟩
      case round =>
       clear HS H; (try clear F)
       obtain ⟨x11, x12, rfl, rfl, H, HKk10, HS⟩ := hrel
       have F := HS.boxes; simp only [boxFacts, and_true] at F
       cases gk with
       | zero => exact absurd H.out (by simp [spec_l07Text.l0])
       | succ k10 =>
        simp only [spec_l07Text.l0] at H
        by_cases c14 : x12 < (a0.f2.length : Int)
        · replace H := zpos c14 H
          replace c14 := eq_true c14
          by_cases c15 : 0 ≤ x12
          case neg => exact zno c15 H
          replace H := zpos c15 H
          replace c15 := eq_true c15
          by_cases c16 : x12 < (a0.f2.length : Int)
          case neg => exact zno c16 H
          replace H := zpos c16 H
          replace c16 := eq_true c16
          obtain ⟨ad17, B17_2, d17_2, rfl, e17_0, e17_1, e17_2, m17_2, y17_2⟩ := at_T107 gp0 x12 (of_eq_true c15) (of_eq_true c16)
          have e17_0_17 := HS.keepc e17_0
          have e17_1_17 := HS.keepc e17_1
          have e17_2_17 := HS.keepc e17_2
          obtain ⟨t18, ht18, H⟩ := zbind H
          by_cases c20 : x11.size + t18.size ≤ 9223372036854775807
          case neg => exact zno c20 H
          replace H := zpos c20 H
          replace c20 := eq_true c20
          go_wp2_with (first | ((with_reducible refine gate_dst (N := 23) rfl ?_); refine ev_call rfl Try.func120 (by kernel_rfl) rfl #[.agg #[.int .i64 ((rd_T107 a0.f2 x12).f0), .string ((rd_T107 a0.f2 x12).f1), .slice B17_2 (rd_T107 a0.f2 x12).f2.length d17_2]] rfl (by simp only [List.map_toArray, List.map_cons, List.map_nil]; rfl) ?_; refine (IH (by have := HK0.out; have := HKk10.out; omega) ht18.out (HS.ro y17_2) m17_2).mono ?_; rintro _ wt18 ⟨rfl, HQ⟩; refine ⟨_, rfl, ?_⟩; replace HS := HS.call HQ; clear HQ; (try clear F); replace HS : Hp noFP w _ [.box g1 [.int .i64 a0.f0, .string a0.f1, .slice (some ad17) a0.f2.length cp0] 107] := HS; have F := HS.boxes; simp only [boxFacts, and_true] at F) | ((with_reducible refine gate_dst (N := 24) rfl ?_); refine ev_val rfl (run_cat rfl rfl rfl (of_eq_true c20)) ?_))
          go_roundg k10
          case measure => have := HK0.out; have := HKk10.out; omega
          case rel => exact ⟨_, _, rfl, rfl, H, ⟨by have := HK0.out; have := HKk10.out; omega⟩, HS.pick [0] (by decide) (by rfl)⟩
        · replace H := zneg c14 H
          replace c14 := eq_false c14
          (try go_wp2)
          obtain ⟨t107001, ht107001, H⟩ := zbind H
          by_cases c108001 : (strOfNums ([(a0.f0 % 256)] : List Int)).size + t107001.size ≤ 9223372036854775807
          case neg => exact zno c108001 H
          replace H := zpos c108001 H
          replace c108001 := eq_true c108001
          by_cases c110001 : ((strOfNums ([(a0.f0 % 256)] : List Int)) ++ t107001).size + x11.size ≤ 9223372036854775807
          case neg => exact zno c110001 H
          replace H := zpos c110001 H
          replace c110001 := eq_true c110001
          refine dr_start [] HS #[false, false, false, false, false, false, false, false, false, false, false, false] (by kernel_rfl) rfl rfl spec_l07Text.tT7 (fun w22 HT HS HH => ?_)
          (try clear F)
          refine join_ 0 #[true, true, true, true, true, true, true, true, true, true, true, true] (fun (v103001 : Value) => ([(25, .pointer (some ⟨g1, 0, none⟩)), (26, .int .i64 a0.f0), (27, .int .u8 (a0.f0 % 256)), (28, v103001), (29, .string (strOfNums ([(a0.f0 % 256)] : List Int))), (30, .string x11), (31, .int .i64 (x11.size : Int)), (32, .string t107001), (33, .string ((strOfNums ([(a0.f0 % 256)] : List Int)) ++ t107001)), (34, .string x11), (35, .string (((strOfNums ([(a0.f0 % 256)] : List Int)) ++ t107001) ++ x11)), (2, .string (((strOfNums ([(a0.f0 % 256)] : List Int)) ++ t107001) ++ x11))] : List (Tmp × Value))) (fun (v103001 : Value) w' => Hp noFP w w' [.box g1 [.int .i64 a0.f0, .string a0.f1, .slice Ap0 a0.f2.length cp0] 107, .own (Zd.slice 5 (Zd.int .u8)) ([(a0.f0 % 256)] : List Int) [v103001]]) ?_ ?_
          rotate_left
          · intro hJ
            refine drq_of [(0, some 25), (1, some 26), (2, some 27), (5, some 30), (6, some 31), (9, some 34)] ?_
            repeat (first | (refine drq_pure HT (v := ?_) (a' := ?_) rfl rfl (by kernel_rfl) (fun _ _ _ h => h) (.inl ⟨by rfl, ?_⟩) ?_ ?_; rotate_left; (intro w'; go_simp; with_reducible rfl); rotate_left; (simp only [Act.put, List.setIfInBounds_toArray, List.set_cons_zero, List.set_cons_succ, i64_w, i32_w]; rfl)) | (refine drq_take HT HH (v := ?_) (a' := ?_) rfl rfl (by kernel_rfl) (fun _ _ _ h => h) (.inl ⟨by rfl, ?_⟩) ?_ ?_; rotate_left; (rintro w' ⟨rs', HS'⟩; have F := HS'.boxes; simp only [boxFacts, List.cons_append, List.nil_append, and_true] at F; go_simp; with_reducible rfl); rotate_left; (simp only [Act.put, List.setIfInBounds_toArray, List.set_cons_zero, List.set_cons_succ, i64_w, i32_w]; rfl)))
            refine drq_end ?_
            refine dr_any [3, 7] HT (by kernel_rfl) (by decide) (AllReadyL.cons rfl (by decide) (fun K hK => ?_) (AllReadyL.cons rfl (by decide) (fun K hK => ?_) AllReadyL.nil))
            · refine if_wp (by rfl) ?_; refine wp_lit (Zd.int .u8) [] ([(a0.f0 % 256)] : List Int) ([.int .u8 (a0.f0 % 256)] ++ []) HS (by first | (go_simp; done) | (go_simp; rfl)) rfl rfl (Nat.le_of_ble_eq_true rfl) (MadeL.cons (js1 := []) (c := [.int .u8 (a0.f0 % 256)]) rfl (made_flat (fun _ => rfl)) MadeL.nil (by decide)) ?_; clear HS; (try clear F); intro v103001 w103001 HS; obtain ⟨B103001, d103001, rfl, m103001⟩ := HS.formn 1 1 rfl rfl
              replace HS : Hp noFP w _ [.box g1 [.int .i64 a0.f0, .string a0.f1, .slice Ap0 a0.f2.length cp0] 107, .own (Zd.slice 5 (Zd.int .u8)) ([(a0.f0 % 256)] : List Int) [.slice B103001 1 d103001]] := HS
              have F := HS.boxes; simp only [boxFacts, and_true] at F
              refine hK.out _ _ ⟨_, HS⟩ (fun HH => ?_)
              clear hK K
              refine norm_ (a' := ?_) ?_ ?_
              rotate_left
              · show Act.put _ (some 28) _ = _; simp only [Act.put, List.setIfInBounds_toArray, List.set_cons_zero, List.set_cons_succ, i64_w, i32_w]; rfl
              refine dr_any [4, 7] HT (by kernel_rfl) (by decide) (AllReadyL.cons rfl (by decide) (fun K hK => ?_) (AllReadyL.cons rfl (by decide) (fun K hK => ?_) AllReadyL.nil))
              · refine if_wp (by rfl) ?_; refine wp_run (run_str rfl rfl Try.underlying162 Try.underlying5 Try.underlying9 (HS.rd 1 rfl)) ?_
                replace HS : Hp noFP w _ [.box g1 [.int .i64 a0.f0, .string a0.f1, .slice Ap0 a0.f2.length cp0] 107, .own (Zd.slice 5 (Zd.int .u8)) ([(a0.f0 % 256)] : List Int) [.slice B103001 1 d103001]] := HS
                have F := HS.boxes; simp only [boxFacts, and_true] at F
                refine hK.out _ _ ⟨_, HS⟩ (fun HH => ?_)
                clear hK K
                refine norm_ (a' := ?_) ?_ ?_
                rotate_left
                · show Act.put _ (some 29) _ = _; simp only [Act.put, List.setIfInBounds_toArray, List.set_cons_zero, List.set_cons_succ, i64_w, i32_w]; rfl
                refine dr_one 7 HT rfl (by kernel_rfl) (by decide) (fun K hK => ?_)
                refine goes_ Try.func164 (by kernel_rfl) rfl #[.int .i64 (x11.size : Int)] (by rfl) rfl rfl (by simp only [List.map_toArray, List.map_cons, List.map_nil]; rfl) ?_; refine (spec_l07Length.calls ht107001.out).mono ?_; rintro _ wt107001 ⟨rfl, HQ⟩; refine ⟨_, rfl, ?_⟩; replace HS := HS.call HQ; clear HQ; (try clear F)
                replace HS : Hp noFP w _ [.box g1 [.int .i64 a0.f0, .string a0.f1, .slice Ap0 a0.f2.length cp0] 107, .own (Zd.slice 5 (Zd.int .u8)) ([(a0.f0 % 256)] : List Int) [.slice B103001 1 d103001]] := HS
                have F := HS.boxes; simp only [boxFacts, and_true] at F
                refine hK.out _ _ ⟨_, HS⟩ (fun HH => ?_)
                clear hK K
                refine norm_ (a' := ?_) ?_ ?_
                rotate_left
                · show Act.put _ (some 32) _ = _; simp only [Act.put, List.setIfInBounds_toArray, List.set_cons_zero, List.set_cons_succ, i64_w, i32_w]; rfl
                refine dr_pure 8 (some 33) HT (v := .string ((strOfNums ([(a0.f0 % 256)] : List Int)) ++ t107001)) (a' := ?_) rfl rfl (by kernel_rfl) (fun _ _ _ h => h) (.inl ⟨by rfl, fun w' => (run_cat rfl rfl rfl (of_eq_true c108001))⟩) ?_ ?_
                rotate_left
                · simp only [Act.put, List.setIfInBounds_toArray, List.set_cons_zero, List.set_cons_succ, i64_w, i32_w]; rfl
                refine dr_pure 10 (some 35) HT (v := .string (((strOfNums ([(a0.f0 % 256)] : List Int)) ++ t107001) ++ x11)) (a' := ?_) rfl rfl (by kernel_rfl) (fun _ _ _ h => h) (.inl ⟨by rfl, fun w' => (run_cat rfl rfl rfl (of_eq_true c110001))⟩) ?_ ?_
                rotate_left
                · simp only [Act.put, List.setIfInBounds_toArray, List.set_cons_zero, List.set_cons_succ, i64_w, i32_w]; rfl
                refine drq_of [(11, some 2)] ?_
                repeat (first | (refine drq_pure HT (v := ?_) (a' := ?_) rfl rfl (by kernel_rfl) (fun _ _ _ h => h) (.inl ⟨by rfl, ?_⟩) ?_ ?_; rotate_left; (intro w'; go_simp; with_reducible rfl); rotate_left; (simp only [Act.put, List.setIfInBounds_toArray, List.set_cons_zero, List.set_cons_succ, i64_w, i32_w]; rfl)))
                refine drq_end ?_
                refine norm_ ?_ (hJ (.slice B103001 1 d103001) _ (HS.arr [some 0, some 1] (by decide)))
                simp only [putAll, Act.put, List.setIfInBounds_toArray, List.set_cons_zero, List.set_cons_succ, i64_w, i32_w]
                (try rfl)
              · refine goes_ Try.func164 (by kernel_rfl) rfl #[.int .i64 (x11.size : Int)] (by rfl) rfl rfl (by simp only [List.map_toArray, List.map_cons, List.map_nil]; rfl) ?_; refine (spec_l07Length.calls ht107001.out).mono ?_; rintro _ wt107001 ⟨rfl, HQ⟩; refine ⟨_, rfl, ?_⟩; replace HS := HS.call HQ; clear HQ; (try clear F)
                replace HS : Hp noFP w _ [.box g1 [.int .i64 a0.f0, .string a0.f1, .slice Ap0 a0.f2.length cp0] 107, .own (Zd.slice 5 (Zd.int .u8)) ([(a0.f0 % 256)] : List Int) [.slice B103001 1 d103001]] := HS
                have F := HS.boxes; simp only [boxFacts, and_true] at F
                refine hK.out _ _ ⟨_, HS⟩ (fun HH => ?_)
                clear hK K
                refine norm_ (a' := ?_) ?_ ?_
                rotate_left
                · show Act.put _ (some 32) _ = _; simp only [Act.put, List.setIfInBounds_toArray, List.set_cons_zero, List.set_cons_succ, i64_w, i32_w]; rfl
                refine dr_one 4 HT rfl (by kernel_rfl) (by decide) (fun K hK => ?_)
                refine if_wp (by rfl) ?_; refine wp_run (run_str rfl rfl Try.underlying162 Try.underlying5 Try.underlying9 (HS.rd 1 rfl)) ?_
                replace HS : Hp noFP w _ [.box g1 [.int .i64 a0.f0, .string a0.f1, .slice Ap0 a0.f2.length cp0] 107, .own (Zd.slice 5 (Zd.int .u8)) ([(a0.f0 % 256)] : List Int) [.slice B103001 1 d103001]] := HS
                have F := HS.boxes; simp only [boxFacts, and_true] at F
                refine hK.out _ _ ⟨_, HS⟩ (fun HH => ?_)
                clear hK K
                refine norm_ (a' := ?_) ?_ ?_
                rotate_left
                · show Act.put _ (some 29) _ = _; simp only [Act.put, List.setIfInBounds_toArray, List.set_cons_zero, List.set_cons_succ, i64_w, i32_w]; rfl
                refine dr_pure 8 (some 33) HT (v := .string ((strOfNums ([(a0.f0 % 256)] : List Int)) ++ t107001)) (a' := ?_) rfl rfl (by kernel_rfl) (fun _ _ _ h => h) (.inl ⟨by rfl, fun w' => (run_cat rfl rfl rfl (of_eq_true c108001))⟩) ?_ ?_
                rotate_left
                · simp only [Act.put, List.setIfInBounds_toArray, List.set_cons_zero, List.set_cons_succ, i64_w, i32_w]; rfl
                refine dr_pure 10 (some 35) HT (v := .string (((strOfNums ([(a0.f0 % 256)] : List Int)) ++ t107001) ++ x11)) (a' := ?_) rfl rfl (by kernel_rfl) (fun _ _ _ h => h) (.inl ⟨by rfl, fun w' => (run_cat rfl rfl rfl (of_eq_true c110001))⟩) ?_ ?_
                rotate_left
                · simp only [Act.put, List.setIfInBounds_toArray, List.set_cons_zero, List.set_cons_succ, i64_w, i32_w]; rfl
                refine drq_of [(11, some 2)] ?_
                repeat (first | (refine drq_pure HT (v := ?_) (a' := ?_) rfl rfl (by kernel_rfl) (fun _ _ _ h => h) (.inl ⟨by rfl, ?_⟩) ?_ ?_; rotate_left; (intro w'; go_simp; with_reducible rfl); rotate_left; (simp only [Act.put, List.setIfInBounds_toArray, List.set_cons_zero, List.set_cons_succ, i64_w, i32_w]; rfl)))
                refine drq_end ?_
                refine norm_ ?_ (hJ (.slice B103001 1 d103001) _ (HS.arr [some 0, some 1] (by decide)))
                simp only [putAll, Act.put, List.setIfInBounds_toArray, List.set_cons_zero, List.set_cons_succ, i64_w, i32_w]
                (try rfl)
            · refine goes_ Try.func164 (by kernel_rfl) rfl #[.int .i64 (x11.size : Int)] (by rfl) rfl rfl (by simp only [List.map_toArray, List.map_cons, List.map_nil]; rfl) ?_; refine (spec_l07Length.calls ht107001.out).mono ?_; rintro _ wt107001 ⟨rfl, HQ⟩; refine ⟨_, rfl, ?_⟩; replace HS := HS.call HQ; clear HQ; (try clear F)
              replace HS : Hp noFP w _ [.box g1 [.int .i64 a0.f0, .string a0.f1, .slice Ap0 a0.f2.length cp0] 107] := HS
              have F := HS.boxes; simp only [boxFacts, and_true] at F
              refine hK.out _ _ ⟨_, HS⟩ (fun HH => ?_)
              clear hK K
              refine norm_ (a' := ?_) ?_ ?_
              rotate_left
              · show Act.put _ (some 32) _ = _; simp only [Act.put, List.setIfInBounds_toArray, List.set_cons_zero, List.set_cons_succ, i64_w, i32_w]; rfl
              refine dr_one 3 HT rfl (by kernel_rfl) (by decide) (fun K hK => ?_)
              refine if_wp (by rfl) ?_; refine wp_lit (Zd.int .u8) [] ([(a0.f0 % 256)] : List Int) ([.int .u8 (a0.f0 % 256)] ++ []) HS (by first | (go_simp; done) | (go_simp; rfl)) rfl rfl (Nat.le_of_ble_eq_true rfl) (MadeL.cons (js1 := []) (c := [.int .u8 (a0.f0 % 256)]) rfl (made_flat (fun _ => rfl)) MadeL.nil (by decide)) ?_; clear HS; (try clear F); intro v103001 w103001 HS; obtain ⟨B103001, d103001, rfl, m103001⟩ := HS.formn 1 1 rfl rfl
              replace HS : Hp noFP w _ [.box g1 [.int .i64 a0.f0, .string a0.f1, .slice Ap0 a0.f2.length cp0] 107, .own (Zd.slice 5 (Zd.int .u8)) ([(a0.f0 % 256)] : List Int) [.slice B103001 1 d103001]] := HS
              have F := HS.boxes; simp only [boxFacts, and_true] at F
              refine hK.out _ _ ⟨_, HS⟩ (fun HH => ?_)
              clear hK K
              refine norm_ (a' := ?_) ?_ ?_
              rotate_left
              · show Act.put _ (some 28) _ = _; simp only [Act.put, List.setIfInBounds_toArray, List.set_cons_zero, List.set_cons_succ, i64_w, i32_w]; rfl
              refine dr_one 4 HT rfl (by kernel_rfl) (by decide) (fun K hK => ?_)
              refine if_wp (by rfl) ?_; refine wp_run (run_str rfl rfl Try.underlying162 Try.underlying5 Try.underlying9 (HS.rd 1 rfl)) ?_
              replace HS : Hp noFP w _ [.box g1 [.int .i64 a0.f0, .string a0.f1, .slice Ap0 a0.f2.length cp0] 107, .own (Zd.slice 5 (Zd.int .u8)) ([(a0.f0 % 256)] : List Int) [.slice B103001 1 d103001]] := HS
              have F := HS.boxes; simp only [boxFacts, and_true] at F
              refine hK.out _ _ ⟨_, HS⟩ (fun HH => ?_)
              clear hK K
              refine norm_ (a' := ?_) ?_ ?_
              rotate_left
              · show Act.put _ (some 29) _ = _; simp only [Act.put, List.setIfInBounds_toArray, List.set_cons_zero, List.set_cons_succ, i64_w, i32_w]; rfl
              refine dr_pure 8 (some 33) HT (v := .string ((strOfNums ([(a0.f0 % 256)] : List Int)) ++ t107001)) (a' := ?_) rfl rfl (by kernel_rfl) (fun _ _ _ h => h) (.inl ⟨by rfl, fun w' => (run_cat rfl rfl rfl (of_eq_true c108001))⟩) ?_ ?_
              rotate_left
              · simp only [Act.put, List.setIfInBounds_toArray, List.set_cons_zero, List.set_cons_succ, i64_w, i32_w]; rfl
              refine dr_pure 10 (some 35) HT (v := .string (((strOfNums ([(a0.f0 % 256)] : List Int)) ++ t107001) ++ x11)) (a' := ?_) rfl rfl (by kernel_rfl) (fun _ _ _ h => h) (.inl ⟨by rfl, fun w' => (run_cat rfl rfl rfl (of_eq_true c110001))⟩) ?_ ?_
              rotate_left
              · simp only [Act.put, List.setIfInBounds_toArray, List.set_cons_zero, List.set_cons_succ, i64_w, i32_w]; rfl
              refine drq_of [(11, some 2)] ?_
              repeat (first | (refine drq_pure HT (v := ?_) (a' := ?_) rfl rfl (by kernel_rfl) (fun _ _ _ h => h) (.inl ⟨by rfl, ?_⟩) ?_ ?_; rotate_left; (intro w'; go_simp; with_reducible rfl); rotate_left; (simp only [Act.put, List.setIfInBounds_toArray, List.set_cons_zero, List.set_cons_succ, i64_w, i32_w]; rfl)))
              refine drq_end ?_
              refine norm_ ?_ (hJ (.slice B103001 1 d103001) _ (HS.arr [some 0, some 1] (by decide)))
              simp only [putAll, Act.put, List.setIfInBounds_toArray, List.set_cons_zero, List.set_cons_succ, i64_w, i32_w]
              (try rfl)
          rintro v103001 w199999 HS
          obtain ⟨B103001, d103001, rfl, m103001⟩ := HS.formn 1 1 rfl (by first | rfl | simp)
          have F := HS.boxes; simp only [boxFacts, and_true] at F
          refine norm_ (a' := ?_) ?_ ?_
          rotate_left
          · simp only [putAll, Act.put, List.setIfInBounds_toArray, List.set_cons_zero, List.set_cons_succ, i64_w, i32_w]; rfl
          refine done_ (done_of HT.out (by kernel_rfl)) ?_
          obtain rfl := zsome H
          go_wp2
          go_ret
          exact ⟨rfl, HS.pick [] (by decide) (by rfl)⟩
    · replace H := zneg c3 H
      have c3a := beq_eq_false_iff_ne.mpr c3
      have c3b := bne_iff_ne.mpr c3
      clear c3
      (try simp only [c3a, c3b, decide_true, decide_false, Bool.not_true, Bool.not_false])
      (try go_wp2)
      obtain ⟨t207001, ht207001, H⟩ := zbind H
      by_cases c208001 : (strOfNums ([(a0.f0 % 256)] : List Int)).size + t207001.size ≤ 9223372036854775807
      case neg => exact zno c208001 H
      replace H := zpos c208001 H
      replace c208001 := eq_true c208001
      by_cases c210001 : ((strOfNums ([(a0.f0 % 256)] : List Int)) ++ t207001).size + a0.f1.size ≤ 9223372036854775807
      case neg => exact zno c210001 H
      replace H := zpos c210001 H
      replace c210001 := eq_true c210001
      refine dr_start [] HS #[false, false, false, false, false, false, false, false, false, false, false, false] (by kernel_rfl) rfl rfl spec_l07Text.tT7 (fun w25 HT HS HH => ?_)
      (try clear F)
      refine join_ 0 #[true, true, true, true, true, true, true, true, true, true, true, true] (fun (v203001 : Value) => ([(25, .pointer (some ⟨g1, 0, none⟩)), (26, .int .i64 a0.f0), (27, .int .u8 (a0.f0 % 256)), (28, v203001), (29, .string (strOfNums ([(a0.f0 % 256)] : List Int))), (30, .string a0.f1), (31, .int .i64 (a0.f1.size : Int)), (32, .string t207001), (33, .string ((strOfNums ([(a0.f0 % 256)] : List Int)) ++ t207001)), (34, .string a0.f1), (35, .string (((strOfNums ([(a0.f0 % 256)] : List Int)) ++ t207001) ++ a0.f1)), (2, .string (((strOfNums ([(a0.f0 % 256)] : List Int)) ++ t207001) ++ a0.f1))] : List (Tmp × Value))) (fun (v203001 : Value) w' => Hp noFP w w' [.box g1 [.int .i64 a0.f0, .string a0.f1, .slice Ap0 a0.f2.length cp0] 107, .own (Zd.slice 5 (Zd.int .u8)) ([(a0.f0 % 256)] : List Int) [v203001]]) ?_ ?_
      rotate_left
      · intro hJ
        refine drq_of [(0, some 25), (1, some 26), (2, some 27), (5, some 30), (6, some 31), (9, some 34)] ?_
        repeat (first | (refine drq_pure HT (v := ?_) (a' := ?_) rfl rfl (by kernel_rfl) (fun _ _ _ h => h) (.inl ⟨by rfl, ?_⟩) ?_ ?_; rotate_left; (intro w'; go_simp; with_reducible rfl); rotate_left; (simp only [Act.put, List.setIfInBounds_toArray, List.set_cons_zero, List.set_cons_succ, i64_w, i32_w]; rfl)) | (refine drq_take HT HH (v := ?_) (a' := ?_) rfl rfl (by kernel_rfl) (fun _ _ _ h => h) (.inl ⟨by rfl, ?_⟩) ?_ ?_; rotate_left; (rintro w' ⟨rs', HS'⟩; have F := HS'.boxes; simp only [boxFacts, List.cons_append, List.nil_append, and_true] at F; go_simp; with_reducible rfl); rotate_left; (simp only [Act.put, List.setIfInBounds_toArray, List.set_cons_zero, List.set_cons_succ, i64_w, i32_w]; rfl)))
        refine drq_end ?_
        refine dr_any [3, 7] HT (by kernel_rfl) (by decide) (AllReadyL.cons rfl (by decide) (fun K hK => ?_) (AllReadyL.cons rfl (by decide) (fun K hK => ?_) AllReadyL.nil))
        · refine if_wp (by rfl) ?_; refine wp_lit (Zd.int .u8) [] ([(a0.f0 % 256)] : List Int) ([.int .u8 (a0.f0 % 256)] ++ []) HS (by first | (go_simp; done) | (go_simp; rfl)) rfl rfl (Nat.le_of_ble_eq_true rfl) (MadeL.cons (js1 := []) (c := [.int .u8 (a0.f0 % 256)]) rfl (made_flat (fun _ => rfl)) MadeL.nil (by decide)) ?_; clear HS; (try clear F); intro v203001 w203001 HS; obtain ⟨B203001, d203001, rfl, m203001⟩ := HS.formn 1 1 rfl rfl
          replace HS : Hp noFP w _ [.box g1 [.int .i64 a0.f0, .string a0.f1, .slice Ap0 a0.f2.length cp0] 107, .own (Zd.slice 5 (Zd.int .u8)) ([(a0.f0 % 256)] : List Int) [.slice B203001 1 d203001]] := HS
          have F := HS.boxes; simp only [boxFacts, and_true] at F
          refine hK.out _ _ ⟨_, HS⟩ (fun HH => ?_)
          clear hK K
          refine norm_ (a' := ?_) ?_ ?_
          rotate_left
          · show Act.put _ (some 28) _ = _; simp only [Act.put, List.setIfInBounds_toArray, List.set_cons_zero, List.set_cons_succ, i64_w, i32_w]; rfl
          refine dr_any [4, 7] HT (by kernel_rfl) (by decide) (AllReadyL.cons rfl (by decide) (fun K hK => ?_) (AllReadyL.cons rfl (by decide) (fun K hK => ?_) AllReadyL.nil))
          · refine if_wp (by rfl) ?_; refine wp_run (run_str rfl rfl Try.underlying162 Try.underlying5 Try.underlying9 (HS.rd 1 rfl)) ?_
            replace HS : Hp noFP w _ [.box g1 [.int .i64 a0.f0, .string a0.f1, .slice Ap0 a0.f2.length cp0] 107, .own (Zd.slice 5 (Zd.int .u8)) ([(a0.f0 % 256)] : List Int) [.slice B203001 1 d203001]] := HS
            have F := HS.boxes; simp only [boxFacts, and_true] at F
            refine hK.out _ _ ⟨_, HS⟩ (fun HH => ?_)
            clear hK K
            refine norm_ (a' := ?_) ?_ ?_
            rotate_left
            · show Act.put _ (some 29) _ = _; simp only [Act.put, List.setIfInBounds_toArray, List.set_cons_zero, List.set_cons_succ, i64_w, i32_w]; rfl
            refine dr_one 7 HT rfl (by kernel_rfl) (by decide) (fun K hK => ?_)
            refine goes_ Try.func164 (by kernel_rfl) rfl #[.int .i64 (a0.f1.size : Int)] (by rfl) rfl rfl (by simp only [List.map_toArray, List.map_cons, List.map_nil]; rfl) ?_; refine (spec_l07Length.calls ht207001.out).mono ?_; rintro _ wt207001 ⟨rfl, HQ⟩; refine ⟨_, rfl, ?_⟩; replace HS := HS.call HQ; clear HQ; (try clear F)
            replace HS : Hp noFP w _ [.box g1 [.int .i64 a0.f0, .string a0.f1, .slice Ap0 a0.f2.length cp0] 107, .own (Zd.slice 5 (Zd.int .u8)) ([(a0.f0 % 256)] : List Int) [.slice B203001 1 d203001]] := HS
            have F := HS.boxes; simp only [boxFacts, and_true] at F
            refine hK.out _ _ ⟨_, HS⟩ (fun HH => ?_)
            clear hK K
            refine norm_ (a' := ?_) ?_ ?_
            rotate_left
            · show Act.put _ (some 32) _ = _; simp only [Act.put, List.setIfInBounds_toArray, List.set_cons_zero, List.set_cons_succ, i64_w, i32_w]; rfl
            refine dr_pure 8 (some 33) HT (v := .string ((strOfNums ([(a0.f0 % 256)] : List Int)) ++ t207001)) (a' := ?_) rfl rfl (by kernel_rfl) (fun _ _ _ h => h) (.inl ⟨by rfl, fun w' => (run_cat rfl rfl rfl (of_eq_true c208001))⟩) ?_ ?_
            rotate_left
            · simp only [Act.put, List.setIfInBounds_toArray, List.set_cons_zero, List.set_cons_succ, i64_w, i32_w]; rfl
            refine dr_pure 10 (some 35) HT (v := .string (((strOfNums ([(a0.f0 % 256)] : List Int)) ++ t207001) ++ a0.f1)) (a' := ?_) rfl rfl (by kernel_rfl) (fun _ _ _ h => h) (.inl ⟨by rfl, fun w' => (run_cat rfl rfl rfl (of_eq_true c210001))⟩) ?_ ?_
            rotate_left
            · simp only [Act.put, List.setIfInBounds_toArray, List.set_cons_zero, List.set_cons_succ, i64_w, i32_w]; rfl
            refine drq_of [(11, some 2)] ?_
            repeat (first | (refine drq_pure HT (v := ?_) (a' := ?_) rfl rfl (by kernel_rfl) (fun _ _ _ h => h) (.inl ⟨by rfl, ?_⟩) ?_ ?_; rotate_left; (intro w'; go_simp; with_reducible rfl); rotate_left; (simp only [Act.put, List.setIfInBounds_toArray, List.set_cons_zero, List.set_cons_succ, i64_w, i32_w]; rfl)))
            refine drq_end ?_
            refine norm_ ?_ (hJ (.slice B203001 1 d203001) _ (HS.arr [some 0, some 1] (by decide)))
            simp only [putAll, Act.put, List.setIfInBounds_toArray, List.set_cons_zero, List.set_cons_succ, i64_w, i32_w]
            (try rfl)
          · refine goes_ Try.func164 (by kernel_rfl) rfl #[.int .i64 (a0.f1.size : Int)] (by rfl) rfl rfl (by simp only [List.map_toArray, List.map_cons, List.map_nil]; rfl) ?_; refine (spec_l07Length.calls ht207001.out).mono ?_; rintro _ wt207001 ⟨rfl, HQ⟩; refine ⟨_, rfl, ?_⟩; replace HS := HS.call HQ; clear HQ; (try clear F)
            replace HS : Hp noFP w _ [.box g1 [.int .i64 a0.f0, .string a0.f1, .slice Ap0 a0.f2.length cp0] 107, .own (Zd.slice 5 (Zd.int .u8)) ([(a0.f0 % 256)] : List Int) [.slice B203001 1 d203001]] := HS
            have F := HS.boxes; simp only [boxFacts, and_true] at F
            refine hK.out _ _ ⟨_, HS⟩ (fun HH => ?_)
            clear hK K
            refine norm_ (a' := ?_) ?_ ?_
            rotate_left
            · show Act.put _ (some 32) _ = _; simp only [Act.put, List.setIfInBounds_toArray, List.set_cons_zero, List.set_cons_succ, i64_w, i32_w]; rfl
            refine dr_one 4 HT rfl (by kernel_rfl) (by decide) (fun K hK => ?_)
            refine if_wp (by rfl) ?_; refine wp_run (run_str rfl rfl Try.underlying162 Try.underlying5 Try.underlying9 (HS.rd 1 rfl)) ?_
            replace HS : Hp noFP w _ [.box g1 [.int .i64 a0.f0, .string a0.f1, .slice Ap0 a0.f2.length cp0] 107, .own (Zd.slice 5 (Zd.int .u8)) ([(a0.f0 % 256)] : List Int) [.slice B203001 1 d203001]] := HS
            have F := HS.boxes; simp only [boxFacts, and_true] at F
            refine hK.out _ _ ⟨_, HS⟩ (fun HH => ?_)
            clear hK K
            refine norm_ (a' := ?_) ?_ ?_
            rotate_left
            · show Act.put _ (some 29) _ = _; simp only [Act.put, List.setIfInBounds_toArray, List.set_cons_zero, List.set_cons_succ, i64_w, i32_w]; rfl
            refine dr_pure 8 (some 33) HT (v := .string ((strOfNums ([(a0.f0 % 256)] : List Int)) ++ t207001)) (a' := ?_) rfl rfl (by kernel_rfl) (fun _ _ _ h => h) (.inl ⟨by rfl, fun w' => (run_cat rfl rfl rfl (of_eq_true c208001))⟩) ?_ ?_
            rotate_left
            · simp only [Act.put, List.setIfInBounds_toArray, List.set_cons_zero, List.set_cons_succ, i64_w, i32_w]; rfl
            refine dr_pure 10 (some 35) HT (v := .string (((strOfNums ([(a0.f0 % 256)] : List Int)) ++ t207001) ++ a0.f1)) (a' := ?_) rfl rfl (by kernel_rfl) (fun _ _ _ h => h) (.inl ⟨by rfl, fun w' => (run_cat rfl rfl rfl (of_eq_true c210001))⟩) ?_ ?_
            rotate_left
            · simp only [Act.put, List.setIfInBounds_toArray, List.set_cons_zero, List.set_cons_succ, i64_w, i32_w]; rfl
            refine drq_of [(11, some 2)] ?_
            repeat (first | (refine drq_pure HT (v := ?_) (a' := ?_) rfl rfl (by kernel_rfl) (fun _ _ _ h => h) (.inl ⟨by rfl, ?_⟩) ?_ ?_; rotate_left; (intro w'; go_simp; with_reducible rfl); rotate_left; (simp only [Act.put, List.setIfInBounds_toArray, List.set_cons_zero, List.set_cons_succ, i64_w, i32_w]; rfl)))
            refine drq_end ?_
            refine norm_ ?_ (hJ (.slice B203001 1 d203001) _ (HS.arr [some 0, some 1] (by decide)))
            simp only [putAll, Act.put, List.setIfInBounds_toArray, List.set_cons_zero, List.set_cons_succ, i64_w, i32_w]
            (try rfl)
        · refine goes_ Try.func164 (by kernel_rfl) rfl #[.int .i64 (a0.f1.size : Int)] (by rfl) rfl rfl (by simp only [List.map_toArray, List.map_cons, List.map_nil]; rfl) ?_; refine (spec_l07Length.calls ht207001.out).mono ?_; rintro _ wt207001 ⟨rfl, HQ⟩; refine ⟨_, rfl, ?_⟩; replace HS := HS.call HQ; clear HQ; (try clear F)
          replace HS : Hp noFP w _ [.box g1 [.int .i64 a0.f0, .string a0.f1, .slice Ap0 a0.f2.length cp0] 107] := HS
          have F := HS.boxes; simp only [boxFacts, and_true] at F
          refine hK.out _ _ ⟨_, HS⟩ (fun HH => ?_)
          clear hK K
          refine norm_ (a' := ?_) ?_ ?_
          rotate_left
          · show Act.put _ (some 32) _ = _; simp only [Act.put, List.setIfInBounds_toArray, List.set_cons_zero, List.set_cons_succ, i64_w, i32_w]; rfl
          refine dr_one 3 HT rfl (by kernel_rfl) (by decide) (fun K hK => ?_)
          refine if_wp (by rfl) ?_; refine wp_lit (Zd.int .u8) [] ([(a0.f0 % 256)] : List Int) ([.int .u8 (a0.f0 % 256)] ++ []) HS (by first | (go_simp; done) | (go_simp; rfl)) rfl rfl (Nat.le_of_ble_eq_true rfl) (MadeL.cons (js1 := []) (c := [.int .u8 (a0.f0 % 256)]) rfl (made_flat (fun _ => rfl)) MadeL.nil (by decide)) ?_; clear HS; (try clear F); intro v203001 w203001 HS; obtain ⟨B203001, d203001, rfl, m203001⟩ := HS.formn 1 1 rfl rfl
          replace HS : Hp noFP w _ [.box g1 [.int .i64 a0.f0, .string a0.f1, .slice Ap0 a0.f2.length cp0] 107, .own (Zd.slice 5 (Zd.int .u8)) ([(a0.f0 % 256)] : List Int) [.slice B203001 1 d203001]] := HS
          have F := HS.boxes; simp only [boxFacts, and_true] at F
          refine hK.out _ _ ⟨_, HS⟩ (fun HH => ?_)
          clear hK K
          refine norm_ (a' := ?_) ?_ ?_
          rotate_left
          · show Act.put _ (some 28) _ = _; simp only [Act.put, List.setIfInBounds_toArray, List.set_cons_zero, List.set_cons_succ, i64_w, i32_w]; rfl
          refine dr_one 4 HT rfl (by kernel_rfl) (by decide) (fun K hK => ?_)
          refine if_wp (by rfl) ?_; refine wp_run (run_str rfl rfl Try.underlying162 Try.underlying5 Try.underlying9 (HS.rd 1 rfl)) ?_
          replace HS : Hp noFP w _ [.box g1 [.int .i64 a0.f0, .string a0.f1, .slice Ap0 a0.f2.length cp0] 107, .own (Zd.slice 5 (Zd.int .u8)) ([(a0.f0 % 256)] : List Int) [.slice B203001 1 d203001]] := HS
          have F := HS.boxes; simp only [boxFacts, and_true] at F
          refine hK.out _ _ ⟨_, HS⟩ (fun HH => ?_)
          clear hK K
          refine norm_ (a' := ?_) ?_ ?_
          rotate_left
          · show Act.put _ (some 29) _ = _; simp only [Act.put, List.setIfInBounds_toArray, List.set_cons_zero, List.set_cons_succ, i64_w, i32_w]; rfl
          refine dr_pure 8 (some 33) HT (v := .string ((strOfNums ([(a0.f0 % 256)] : List Int)) ++ t207001)) (a' := ?_) rfl rfl (by kernel_rfl) (fun _ _ _ h => h) (.inl ⟨by rfl, fun w' => (run_cat rfl rfl rfl (of_eq_true c208001))⟩) ?_ ?_
          rotate_left
          · simp only [Act.put, List.setIfInBounds_toArray, List.set_cons_zero, List.set_cons_succ, i64_w, i32_w]; rfl
          refine dr_pure 10 (some 35) HT (v := .string (((strOfNums ([(a0.f0 % 256)] : List Int)) ++ t207001) ++ a0.f1)) (a' := ?_) rfl rfl (by kernel_rfl) (fun _ _ _ h => h) (.inl ⟨by rfl, fun w' => (run_cat rfl rfl rfl (of_eq_true c210001))⟩) ?_ ?_
          rotate_left
          · simp only [Act.put, List.setIfInBounds_toArray, List.set_cons_zero, List.set_cons_succ, i64_w, i32_w]; rfl
          refine drq_of [(11, some 2)] ?_
          repeat (first | (refine drq_pure HT (v := ?_) (a' := ?_) rfl rfl (by kernel_rfl) (fun _ _ _ h => h) (.inl ⟨by rfl, ?_⟩) ?_ ?_; rotate_left; (intro w'; go_simp; with_reducible rfl); rotate_left; (simp only [Act.put, List.setIfInBounds_toArray, List.set_cons_zero, List.set_cons_succ, i64_w, i32_w]; rfl)))
          refine drq_end ?_
          refine norm_ ?_ (hJ (.slice B203001 1 d203001) _ (HS.arr [some 0, some 1] (by decide)))
          simp only [putAll, Act.put, List.setIfInBounds_toArray, List.set_cons_zero, List.set_cons_succ, i64_w, i32_w]
          (try rfl)
      rintro v203001 w299999 HS
      obtain ⟨B203001, d203001, rfl, m203001⟩ := HS.formn 1 1 rfl (by first | rfl | simp)
      have F := HS.boxes; simp only [boxFacts, and_true] at F
      refine norm_ (a' := ?_) ?_ ?_
      rotate_left
      · simp only [putAll, Act.put, List.setIfInBounds_toArray, List.set_cons_zero, List.set_cons_succ, i64_w, i32_w]; rfl
      refine done_ (done_of HT.out (by kernel_rfl)) ?_
      obtain rfl := zsome H
      go_wp2
      go_ret
      exact ⟨rfl, HS.pick [] (by decide) (by rfl)⟩
theorem spec_l07Text.calls {k : Nat} {a0 : S107} {Ap0 : Option Addr} {np0 cp0 : Nat} {r : ByteArray} {w : World} (h : spec_l07Text.f k a0 = some r) (gp0 : k107.C w Ap0 np0 a0.f2) (lp0 : np0 ≤ cp0) :
    Calls Try.prog 120 #[.agg #[.int .i64 a0.f0, .string a0.f1, .slice Ap0 np0 cp0]] w (fun e w' => e = .returned (.string r) ∧ Hp noFP w w' []) := spec_l07Text.calls_ k (Nat.le_refl k) h gp0 lp0
/-! ### spec_ItemText: function 64 -/
def spec_ItemText.f (k : Nat) (a0 : S107) : Option (ByteArray × Bool) := ((spec_ItemOk.f k a0).bind fun t3 => (if t3 = true then ((spec_l07Text.f k a0).bind fun t6 => (if 4000 < (t6.size : Int) then (some ((⟨#[]⟩ : ByteArray), false)) else (some (t6, true)))) else (some ((⟨#[]⟩ : ByteArray), false))))
set_option maxHeartbeats 16000000 in
theorem spec_ItemText.calls {k : Nat} {a0 : S107} {Ap0 : Option Addr} {np0 cp0 : Nat} {r1 : ByteArray} {r2 : Bool} {w : World} (h : spec_ItemText.f k a0 = some (r1, r2)) (gp0 : k107.C w Ap0 np0 a0.f2) (lp0 : np0 ≤ cp0) :
    Calls Try.prog 64 #[.agg #[.int .i64 a0.f0, .string a0.f1, .slice Ap0 np0 cp0]] w (fun e w' => e = .returned (.tuple #[.string r1, .bool r2]) ∧ Hp noFP w w' []) := by
 obtain rfl := C_len gp0
 have HS := Hp.start w
 have H := Aside0.mk h
 clear h
 unfold spec_ItemText.f at H
 go_enter Try.func64, Try.ntmps64
 obtain ⟨t3, ht3, H⟩ := zbind H
 go_upto_if 7 with (first | ((with_reducible refine gate_dst (N := 1) rfl ?_); refine ev_box rfl HS (by first | (go_simp; done) | (go_simp; rfl)) rfl ?_; clear HS; (try clear F); intro g1 w1 HS; replace HS : Hp noFP w _ [.box g1 [.int .i64 a0.f0, .string a0.f1, .slice Ap0 a0.f2.length cp0] 107] := HS; have F := HS.boxes; simp only [boxFacts, and_true] at F) | ((with_reducible refine gate_dst (N := 6) rfl ?_); refine ev_call rfl Try.func119 (by kernel_rfl) rfl #[.agg #[.int .i64 a0.f0, .string a0.f1, .slice Ap0 a0.f2.length cp0]] rfl (by simp only [List.map_toArray, List.map_cons, List.map_nil]; rfl) ?_; refine (spec_ItemOk.calls ht3.out (HS.ro gp0) lp0).mono ?_; rintro _ wt3 ⟨rfl, HQ⟩; refine ⟨_, rfl, ?_⟩; replace HS := HS.call HQ; clear HQ; (try clear F); replace HS : Hp noFP w _ [.box g1 [.int .i64 a0.f0, .string a0.f1, .slice Ap0 a0.f2.length cp0] 107] := HS; have F := HS.boxes; simp only [boxFacts, and_true] at F))
 by_cases c5 : t3 = true
 · replace H := zpos c5 H
   (try simp only [c5, decide_true, decide_false, Bool.not_true, Bool.not_false])
   obtain ⟨t6, ht6, H⟩ := zbind H
   go_upto_if 12 with (first | ((with_reducible refine gate_dst (N := 9) rfl ?_); refine ev_call rfl Try.func120 (by kernel_rfl) rfl #[.agg #[.int .i64 a0.f0, .string a0.f1, .slice Ap0 a0.f2.length cp0]] rfl (by simp only [List.map_toArray, List.map_cons, List.map_nil]; rfl) ?_; refine (spec_l07Text.calls ht6.out (HS.ro gp0) lp0).mono ?_; rintro _ wt6 ⟨rfl, HQ⟩; refine ⟨_, rfl, ?_⟩; replace HS := HS.call HQ; clear HQ; (try clear F); replace HS : Hp noFP w _ [.box g1 [.int .i64 a0.f0, .string a0.f1, .slice Ap0 a0.f2.length cp0] 107] := HS; have F := HS.boxes; simp only [boxFacts, and_true] at F))
   by_cases c8 : 4000 < (t6.size : Int)
   · replace H := zpos c8 H
     replace c8 := eq_true c8
     (try simp only [c8, decide_true, decide_false, Bool.not_true, Bool.not_false])
     obtain ⟨rfl, rfl⟩ := zsome2 H
     go_wp2
     exact bodyPost_ret (results_list (rs := [.tmp 2, .tmp 3]) rfl (by simp) (.tmp (.tmp .nil))) rfl ⟨rfl, HS.pick [] (by decide) (by rfl)⟩
   · replace H := zneg c8 H
     replace c8 := eq_false c8
     (try simp only [c8, decide_true, decide_false, Bool.not_true, Bool.not_false])
     obtain ⟨rfl, rfl⟩ := zsome2 H
     go_wp2
     exact bodyPost_ret (results_list (rs := [.tmp 2, .tmp 3]) rfl (by simp) (.tmp (.tmp .nil))) rfl ⟨rfl, HS.pick [] (by decide) (by rfl)⟩
 · replace H := zneg c5 H
   replace c5 := eq_false_of_ne_true c5
   (try simp only [c5, decide_true, decide_false, Bool.not_true, Bool.not_false])
   obtain ⟨rfl, rfl⟩ := zsome2 H
   go_wp2
   exact bodyPost_ret (results_list (rs := [.tmp 2, .tmp 3]) rfl (by simp) (.tmp (.tmp .nil))) rfl ⟨rfl, HS.pick [] (by decide) (by rfl)⟩
/-! ### spec_IntItem: function 121 -/
mutual
def spec_IntItem.l0 : Nat → Int → ByteArray → Option (S107)
  | 0, _, _ => none
  | k + 1, x15, x16 => (if 0 < x15 then (if (strOfNums ([((Int.tmod x15 256) % 256)] : List Int)).size + x16.size ≤ 9223372036854775807 then (spec_IntItem.l0 k (wrap64 (Int.tdiv x15 256)) ((strOfNums ([((Int.tmod x15 256) % 256)] : List Int)) ++ x16)) else none) else (if x16.toList = ([] : List UInt8) then (if (⟨#[0]⟩ : ByteArray).size + x16.size ≤ 9223372036854775807 then (some (⟨2, ((⟨#[0]⟩ : ByteArray) ++ x16), ([] : List S107)⟩ : S107)) else none) else (if 0 < (x16.size : Int) then (if 128 ≤ (bt x16 0) then (if (⟨#[0]⟩ : ByteArray).size + x16.size ≤ 9223372036854775807 then (some (⟨2, ((⟨#[0]⟩ : ByteArray) ++ x16), ([] : List S107)⟩ : S107)) else none) else (some (⟨2, x16, ([] : List S107)⟩ : S107))) else none)))
def spec_IntItem.l1 : Nat → Int → ByteArray → Option (S107)
  | 0, _, _ => none
  | k + 1, x44, x45 => (if 0 < x44 then (if (strOfNums ([((Int.tmod x44 256) % 256)] : List Int)).size + x45.size ≤ 9223372036854775807 then (spec_IntItem.l1 k (wrap64 (Int.tdiv x44 256)) ((strOfNums ([((Int.tmod x44 256) % 256)] : List Int)) ++ x45)) else none) else (if x45.toList = ([] : List UInt8) then (if (⟨#[0]⟩ : ByteArray).size + x45.size ≤ 9223372036854775807 then (some (⟨2, ((⟨#[0]⟩ : ByteArray) ++ x45), ([] : List S107)⟩ : S107)) else none) else (if 0 < (x45.size : Int) then (if 128 ≤ (bt x45 0) then (if (⟨#[0]⟩ : ByteArray).size + x45.size ≤ 9223372036854775807 then (some (⟨2, ((⟨#[0]⟩ : ByteArray) ++ x45), ([] : List S107)⟩ : S107)) else none) else (some (⟨2, x45, ([] : List S107)⟩ : S107))) else none)))
end
def spec_IntItem.f (k : Nat) (a0 : Int) : Option (S107) := ((spec_l01In.f a0 0 1000000000).bind fun t3 => (if t3 = true then (spec_IntItem.l0 k a0 (⟨#[]⟩ : ByteArray)) else (spec_IntItem.l1 k 0 (⟨#[]⟩ : ByteArray))))
set_option maxHeartbeats 16000000 in
theorem spec_IntItem.calls {k : Nat} {a0 : Int} {r : S107} {w : World} (h : spec_IntItem.f k a0 = some r) :
    Calls Try.prog 121 #[.int .i64 a0] w (fun e w' => ∃ v0_ : Value, e = .returned (.agg #[.int .i64 r.f0, .string r.f1, v0_]) ∧ Hp noFP w w' [.own (Zd.slice 107 q107) r.f2 [v0_]]) := by
 have HS := Hp.start w
 have H := Aside0.mk h
 clear h
 unfold spec_IntItem.f at H
 go_enter Try.func121, Try.ntmps121
 obtain ⟨t3, ht3, H⟩ := zbind H
 go_upto_if 6 with (first | ((with_reducible refine gate_dst (N := 2) rfl ?_); refine ev_box rfl HS (by first | (go_simp; done) | (go_simp; rfl)) rfl ?_; clear HS; (try clear F); intro g2 w2 HS; replace HS : Hp noFP w _ [.box g2 [.int .i64 0, .string (⟨#[]⟩ : ByteArray), .slice none 0 0] 107] := HS; have F := HS.boxes; simp only [boxFacts, and_true] at F) | ((with_reducible refine gate_dst (N := 5) rfl ?_); refine ev_call rfl Try.func101 (by kernel_rfl) rfl #[.int .i64 a0, .int .i64 0, .int .i64 1000000000] rfl (by simp only [List.map_toArray, List.map_cons, List.map_nil]; rfl) ?_; refine (spec_l01In.calls ht3.out).mono ?_; rintro _ wt3 ⟨rfl, HQ⟩; refine ⟨_, rfl, ?_⟩; replace HS := HS.call HQ; clear HQ; (try clear F); replace HS : Hp noFP w _ [.box g2 [.int .i64 0, .string (⟨#[]⟩ : ByteArray), .slice none 0 0] 107] := HS; have F := HS.boxes; simp only [boxFacts, and_true] at F))
 by_cases c5 : t3 = true
 · replace H := zpos c5 H
   (try simp only [c5, decide_true, decide_false, Bool.not_true, Bool.not_false])
   go_wp2
   go_loopg [0, 3] k (fun kq v_0 v_3 w' => ∃ (x15 : Int) (x16 : ByteArray), v_0 = .int .i64 x15 ∧ v_3 = .string x16 ∧ Aside0 (spec_IntItem.l0 kq x15 x16 = some r) ∧ Aside0 (kq ≤ k) ∧ Hp noFP w w' [.box g2 [.int .i64 0, .string (⟨#[]⟩ : ByteArray), .slice none 0 0] 107])
   case atStart => exact ⟨_, _, rfl, rfl, H, ⟨Nat.le_refl _⟩, HS⟩
   case round =>
    clear HS H; (try clear F)
    obtain ⟨x15, x16, rfl, rfl, H, HKk14, HS⟩ := hrel
    have F := HS.boxes; simp only [boxFacts, and_true] at F
    cases gk with
    | zero => exact absurd H.out (by simp [spec_IntItem.l0])
    | succ k14 =>
     simp only [spec_IntItem.l0] at H
     by_cases c18 : 0 < x15
     · replace H := zpos c18 H
       replace c18 := eq_true c18
       by_cases c21 : (strOfNums ([((Int.tmod x15 256) % 256)] : List Int)).size + x16.size ≤ 9223372036854775807
       case neg => exact zno c21 H
       replace H := zpos c21 H
       replace c21 := eq_true c21
       go_wp2_with (first | ((with_reducible refine gate_dst (N := 12) rfl ?_); refine ev_lit rfl (Zd.int .u8) [] ([((Int.tmod x15 256) % 256)] : List Int) ([.int .u8 ((Int.tmod x15 256) % 256)] ++ []) HS (by first | (go_simp; done) | (go_simp; rfl)) rfl rfl (Nat.le_of_ble_eq_true rfl) (MadeL.cons (js1 := []) (c := [.int .u8 ((Int.tmod x15 256) % 256)]) rfl (made_flat (fun _ => rfl)) MadeL.nil (by decide)) ?_; clear HS; (try clear F); intro v19 w19 HS; obtain ⟨B19, d19, rfl, m19⟩ := HS.formn 1 1 rfl rfl; replace HS : Hp noFP w _ [.box g2 [.int .i64 0, .string (⟨#[]⟩ : ByteArray), .slice none 0 0] 107, .own (Zd.slice 5 (Zd.int .u8)) ([((Int.tmod x15 256) % 256)] : List Int) [.slice B19 1 d19]] := HS; have F := HS.boxes; simp only [boxFacts, and_true] at F) | ((with_reducible refine gate_dst (N := 13) rfl ?_); refine ev_val rfl (run_str rfl rfl Try.underlying162 Try.underlying5 Try.underlying9 (HS.rd 1 rfl)) ?_) | ((with_reducible refine gate_dst (N := 15) rfl ?_); refine ev_val rfl (run_cat rfl rfl rfl (of_eq_true c21)) ?_))
       go_roundg k14
       case measure => have := HKk14.out; omega
       case rel => exact ⟨_, _, rfl, rfl, H, ⟨by have := HKk14.out; omega⟩, HS.pick [0] (by decide) (by rfl)⟩
     · replace H := zneg c18 H
       replace c18 := eq_false c18
       by_cases c22 : x16.toList = ([] : List UInt8)
       · replace H := zpos c22 H
         have c22a := beq_iff_eq.mpr c22
         have c22b := bne_eq_false_iff_eq.mpr c22
         clear c22
         by_cases c23 : (⟨#[0]⟩ : ByteArray).size + x16.size ≤ 9223372036854775807
         case neg => exact zno c23 H
         replace H := zpos c23 H
         replace c23 := eq_true c23
         obtain rfl := zsome H
         go_wp2_with (first | ((with_reducible refine gate_dst (N := 26) rfl ?_); refine ev_val rfl (run_cat rfl rfl rfl (of_eq_true c23)) ?_) | ((with_reducible refine gate_store (p := 2) rfl ?_); refine ev_store rfl 0 0 HS (seg := [.int .i64 2, .string ((⟨#[0]⟩ : ByteArray) ++ x16), .slice none 0 0]) rfl rfl rfl rfl rfl rfl (by kernel_rfl) (by simp [wrt]) (by simp [Value.oneCell']) ?_; clear HS; (try clear F); intro w24 HS; replace HS : Hp noFP w _ [.box g2 [.int .i64 2, .string ((⟨#[0]⟩ : ByteArray) ++ x16), .slice none 0 0] 107] := HS; have F := HS.boxes; simp only [boxFacts, and_true] at F))
         replace HS := HS.nil 107 q107
         exact bodyPost_ret (results_single rfl (.cell _ _ _ _ _ rfl (HS.boxAt (i := 0) rfl) Try.underlying107 rfl (by kernel_rfl) .nil)) rfl ⟨_, rfl, HS.pick [1] (by decide) (by rfl)⟩
       · replace H := zneg c22 H
         have c22a := beq_eq_false_iff_ne.mpr c22
         have c22b := bne_iff_ne.mpr c22
         clear c22
         by_cases c26 : 0 < (x16.size : Int)
         case neg => exact zno c26 H
         replace H := zpos c26 H
         replace c26 := eq_true c26
         have c26n : (0 < x16.size) = True := eq_true (by have := of_eq_true c26; omega)
         have hx27 : ∀ h : 0 < x16.size, ((x16[0]'h).toNat : Int) = bt x16 0 := bt_at x16 0
         have hz28 : 0 < x16.size := (by have := of_eq_true c26; omega)
         by_cases c29 : 128 ≤ (bt x16 0)
         · replace H := zpos c29 H
           replace c29 := eq_true c29
           by_cases c30 : (⟨#[0]⟩ : ByteArray).size + x16.size ≤ 9223372036854775807
           case neg => exact zno c30 H
           replace H := zpos c30 H
           replace c30 := eq_true c30
           obtain rfl := zsome H
           go_wp2_with (first | ((with_reducible refine gate_dst (N := 26) rfl ?_); refine ev_val rfl (run_cat rfl rfl rfl (of_eq_true c30)) ?_) | ((with_reducible refine gate_store (p := 2) rfl ?_); refine ev_store rfl 0 0 HS (seg := [.int .i64 2, .string ((⟨#[0]⟩ : ByteArray) ++ x16), .slice none 0 0]) rfl rfl rfl rfl rfl rfl (by kernel_rfl) (by simp [wrt]) (by simp [Value.oneCell']) ?_; clear HS; (try clear F); intro w31 HS; replace HS : Hp noFP w _ [.box g2 [.int .i64 2, .string ((⟨#[0]⟩ : ByteArray) ++ x16), .slice none 0 0] 107] := HS; have F := HS.boxes; simp only [boxFacts, and_true] at F))
           replace HS := HS.nil 107 q107
           exact bodyPost_ret (results_single rfl (.cell _ _ _ _ _ rfl (HS.boxAt (i := 0) rfl) Try.underlying107 rfl (by kernel_rfl) .nil)) rfl ⟨_, rfl, HS.pick [1] (by decide) (by rfl)⟩
         · replace H := zneg c29 H
           replace c29 := eq_false c29
           obtain rfl := zsome H
           go_wp2_with (first | ((with_reducible refine gate_store (p := 2) rfl ?_); refine ev_store rfl 0 0 HS (seg := [.int .i64 2, .string x16, .slice none 0 0]) rfl rfl rfl rfl rfl rfl (by kernel_rfl) (by simp [wrt]) (by simp [Value.oneCell']) ?_; clear HS; (try clear F); intro w33 HS; replace HS : Hp noFP w _ [.box g2 [.int .i64 2, .string x16, .slice none 0 0] 107] := HS; have F := HS.boxes; simp only [boxFacts, and_true] at F))
           replace HS := HS.nil 107 q107
           exact bodyPost_ret (results_single rfl (.cell _ _ _ _ _ rfl (HS.boxAt (i := 0) rfl) Try.underlying107 rfl (by kernel_rfl) .nil)) rfl ⟨_, rfl, HS.pick [1] (by decide) (by rfl)⟩
 · replace H := zneg c5 H
   replace c5 := eq_false_of_ne_true c5
   (try simp only [c5, decide_true, decide_false, Bool.not_true, Bool.not_false])
   go_wp2
   go_loopg [0, 3] k (fun kq v_0 v_3 w' => ∃ (x44 : Int) (x45 : ByteArray), v_0 = .int .i64 x44 ∧ v_3 = .string x45 ∧ Aside0 (spec_IntItem.l1 kq x44 x45 = some r) ∧ Aside0 (kq ≤ k) ∧ Hp noFP w w' [.box g2 [.int .i64 0, .string (⟨#[]⟩ : ByteArray), .slice none 0 0] 107])
   case atStart => exact ⟨_, _, rfl, rfl, H, ⟨Nat.le_refl _⟩, HS⟩
   case round =>
    clear HS H; (try clear F)
    obtain ⟨x44, x45, rfl, rfl, H, HKk43, HS⟩ := hrel
    have F := HS.boxes; simp only [boxFacts, and_true] at F
    cases gk with
    | zero => exact absurd H.out (by simp [spec_IntItem.l1])
    | succ k43 =>
     simp only [spec_IntItem.l1] at H
     by_cases c47 : 0 < x44
     · replace H := zpos c47 H
       replace c47 := eq_true c47
       by_cases c50 : (strOfNums ([((Int.tmod x44 256) % 256)] : List Int)).size + x45.size ≤ 9223372036854775807
       case neg => exact zno c50 H
       replace H := zpos c50 H
       replace c50 := eq_true c50
       go_wp2_with (first | ((with_reducible refine gate_dst (N := 12) rfl ?_); refine ev_lit rfl (Zd.int .u8) [] ([((Int.tmod x44 256) % 256)] : List Int) ([.int .u8 ((Int.tmod x44 256) % 256)] ++ []) HS (by first | (go_simp; done) | (go_simp; rfl)) rfl rfl (Nat.le_of_ble_eq_true rfl) (MadeL.cons (js1 := []) (c := [.int .u8 ((Int.tmod x44 256) % 256)]) rfl (made_flat (fun _ => rfl)) MadeL.nil (by decide)) ?_; clear HS; (try clear F); intro v48 w48 HS; obtain ⟨B48, d48, rfl, m48⟩ := HS.formn 1 1 rfl rfl; replace HS : Hp noFP w _ [.box g2 [.int .i64 0, .string (⟨#[]⟩ : ByteArray), .slice none 0 0] 107, .own (Zd.slice 5 (Zd.int .u8)) ([((Int.tmod x44 256) % 256)] : List Int) [.slice B48 1 d48]] := HS; have F := HS.boxes; simp only [boxFacts, and_true] at F) | ((with_reducible refine gate_dst (N := 13) rfl ?_); refine ev_val rfl (run_str rfl rfl Try.underlying162 Try.underlying5 Try.underlying9 (HS.rd 1 rfl)) ?_) | ((with_reducible refine gate_dst (N := 15) rfl ?_); refine ev_val rfl (run_cat rfl rfl rfl (of_eq_true c50)) ?_))
       go_roundg k43
       case measure => have := HKk43.out; omega
       case rel => exact ⟨_, _, rfl, rfl, H, ⟨by have := HKk43.out; omega⟩, HS.pick [0] (by decide) (by rfl)⟩
     · replace H := zneg c47 H
       replace c47 := eq_false c47
       by_cases c51 : x45.toList = ([] : List UInt8)
       · replace H := zpos c51 H
         have c51a := beq_iff_eq.mpr c51
         have c51b := bne_eq_false_iff_eq.mpr c51
         clear c51
         by_cases c52 : (⟨#[0]⟩ : ByteArray).size + x45.size ≤ 9223372036854775807
         case neg => exact zno c52 H
         replace H := zpos c52 H
         replace c52 := eq_true c52
         obtain rfl := zsome H
         go_wp2_with (first | ((with_reducible refine gate_dst (N := 26) rfl ?_); refine ev_val rfl (run_cat rfl rfl rfl (of_eq_true c52)) ?_) | ((with_reducible refine gate_store (p := 2) rfl ?_); refine ev_store rfl 0 0 HS (seg := [.int .i64 2, .string ((⟨#[0]⟩ : ByteArray) ++ x45), .slice none 0 0]) rfl rfl rfl rfl rfl rfl (by kernel_rfl) (by simp [wrt]) (by simp [Value.oneCell']) ?_; clear HS; (try clear F); intro w53 HS; replace HS : Hp noFP w _ [.box g2 [.int .i64 2, .string ((⟨#[0]⟩ : ByteArray) ++ x45), .slice none 0 0] 107] := HS; have F := HS.boxes; simp only [boxFacts, and_true] at F))
         replace HS := HS.nil 107 q107
         exact bodyPost_ret (results_single rfl (.cell _ _ _ _ _ rfl (HS.boxAt (i := 0) rfl) Try.underlying107 rfl (by kernel_rfl) .nil)) rfl ⟨_, rfl, HS.pick [1] (by decide) (by rfl)⟩
       · replace H := zneg c51 H
         have c51a := beq_eq_false_iff_ne.mpr c51
         have c51b := bne_iff_ne.mpr c51
         clear c51
         by_cases c55 : 0 < (x45.size : Int)
         case neg => exact zno c55 H
         replace H := zpos c55 H
         replace c55 := eq_true c55
         have c55n : (0 < x45.size) = True := eq_true (by have := of_eq_true c55; omega)
         have hx56 : ∀ h : 0 < x45.size, ((x45[0]'h).toNat : Int) = bt x45 0 := bt_at x45 0
         have hz57 : 0 < x45.size := (by have := of_eq_true c55; omega)
         by_cases c58 : 128 ≤ (bt x45 0)
         · replace H := zpos c58 H
           replace c58 := eq_true c58
           by_cases c59 : (⟨#[0]⟩ : ByteArray).size + x45.size ≤ 9223372036854775807
           case neg => exact zno c59 H
           replace H := zpos c59 H
           replace c59 := eq_true c59
           obtain rfl := zsome H
           go_wp2_with (first | ((with_reducible refine gate_dst (N := 26) rfl ?_); refine ev_val rfl (run_cat rfl rfl rfl (of_eq_true c59)) ?_) | ((with_reducible refine gate_store (p := 2) rfl ?_); refine ev_store rfl 0 0 HS (seg := [.int .i64 2, .string ((⟨#[0]⟩ : ByteArray) ++ x45), .slice none 0 0]) rfl rfl rfl rfl rfl rfl (by kernel_rfl) (by simp [wrt]) (by simp [Value.oneCell']) ?_; clear HS; (try clear F); intro w60 HS; replace HS : Hp noFP w _ [.box g2 [.int .i64 2, .string ((⟨#[0]⟩ : ByteArray) ++ x45), .slice none 0 0] 107] := HS; have F := HS.boxes; simp only [boxFacts, and_true] at F))
           replace HS := HS.nil 107 q107
           exact bodyPost_ret (results_single rfl (.cell _ _ _ _ _ rfl (HS.boxAt (i := 0) rfl) Try.underlying107 rfl (by kernel_rfl) .nil)) rfl ⟨_, rfl, HS.pick [1] (by decide) (by rfl)⟩
         · replace H := zneg c58 H
           replace c58 := eq_false c58
           obtain rfl := zsome H
           go_wp2_with (first | ((with_reducible refine gate_store (p := 2) rfl ?_); refine ev_store rfl 0 0 HS (seg := [.int .i64 2, .string x45, .slice none 0 0]) rfl rfl rfl rfl rfl rfl (by kernel_rfl) (by simp [wrt]) (by simp [Value.oneCell']) ?_; clear HS; (try clear F); intro w62 HS; replace HS : Hp noFP w _ [.box g2 [.int .i64 2, .string x45, .slice none 0 0] 107] := HS; have F := HS.boxes; simp only [boxFacts, and_true] at F))
           replace HS := HS.nil 107 q107
           exact bodyPost_ret (results_single rfl (.cell _ _ _ _ _ rfl (HS.boxAt (i := 0) rfl) Try.underlying107 rfl (by kernel_rfl) .nil)) rfl ⟨_, rfl, HS.pick [1] (by decide) (by rfl)⟩
/-! ### spec_l09Bytes: function 71 -/
def spec_l09Bytes.f (a0 : ByteArray) : Option (S107) := (some (⟨4, a0, ([] : List S107)⟩ : S107))
set_option maxHeartbeats 16000000 in
theorem spec_l09Bytes.calls {a0 : ByteArray} {r : S107} {w : World} (h : spec_l09Bytes.f a0 = some r) :
    Calls Try.prog 71 #[.string a0] w (fun e w' => ∃ v0_ : Value, e = .returned (.agg #[.int .i64 r.f0, .string r.f1, v0_]) ∧ Hp noFP w w' [.own (Zd.slice 107 q107) r.f2 [v0_]]) := by
 have HS := Hp.start w
 have H := Aside0.mk h
 clear h
 unfold spec_l09Bytes.f at H
 go_enter Try.func71, Try.ntmps71
 obtain rfl := zsome H
 go_wp2_with (first | ((with_reducible refine gate_dst (N := 2) rfl ?_); refine ev_box rfl HS (by first | (go_simp; done) | (go_simp; rfl)) rfl ?_; clear HS; (try clear F); intro g2 w2 HS; replace HS : Hp noFP w _ [.box g2 [.int .i64 0, .string (⟨#[]⟩ : ByteArray), .slice none 0 0] 107] := HS; have F := HS.boxes; simp only [boxFacts, and_true] at F) | ((with_reducible refine gate_store (p := 2) rfl ?_); refine ev_store rfl 0 0 HS (seg := [.int .i64 4, .string a0, .slice none 0 0]) rfl rfl rfl rfl rfl rfl (by kernel_rfl) (by simp [wrt]) (by simp [Value.oneCell']) ?_; clear HS; (try clear F); intro w3 HS; replace HS : Hp noFP w _ [.box g2 [.int .i64 4, .string a0, .slice none 0 0] 107] := HS; have F := HS.boxes; simp only [boxFacts, and_true] at F))
 replace HS := HS.nil 107 q107
 exact bodyPost_ret (results_single rfl (.cell _ _ _ _ _ rfl (HS.boxAt (i := 0) rfl) Try.underlying107 rfl (by kernel_rfl) .nil)) rfl ⟨_, rfl, HS.pick [1] (by decide) (by rfl)⟩
/-! ### spec_l14Texts: function 122 -/
def spec_l14Texts.l0 : Nat → (List S107) → Int → (List ByteArray) → Option (S107)
  | 0, _, _, _ => none
  | k + 1, l19, x21, a0 => (if x21 < (a0.length : Int) then (if 0 ≤ x21 then (if x21 < (a0.length : Int) then ((spec_l09Bytes.f (rdOf ByteArray.empty a0 x21)).bind fun t206001 => (if l19.length + 1 ≤ 2932031007402 then (lets (l19 ++ ([t206001] : List S107)) fun y208002 => (spec_l14Texts.l0 k y208002 (wrap64 (x21 + 1)) a0)) else none)) else none) else none) else (some (⟨48, (⟨#[]⟩ : ByteArray), l19⟩ : S107)))
def spec_l14Texts.f (k : Nat) (a0 : (List ByteArray)) : Option (S107) := (spec_l14Texts.l0 k [] 0 a0)
def spec_l14Texts.T5 : Bool × List (List Nat × List Nat) := (true, [([], []), ([0], [0]), ([], []), ([], []), ([2, 3], [2, 3]), ([4], [4]), ([5], [5]), ([6], [6]), ([1, 7, 6], [1, 7]), ([0, 1, 2, 3, 4, 5, 6, 7, 8], []), ([9, 8, 8, 0, 1, 2, 3, 4, 5, 6, 7, 8], [8, 9])])
theorem spec_l14Texts.tT5 : rtab .any (opsOf Try.f122 5) = spec_l14Texts.T5 := by kernel_rfl
set_option maxHeartbeats 16000000 in
theorem spec_l14Texts.calls {k : Nat} {a0 : (List ByteArray)} {Ap0 : Option Addr} {np0 cp0 : Nat} {r : S107} {w : World} (h : spec_l14Texts.f k a0 = some r) (gp0 : Kd.string.C w Ap0 np0 a0) (lp0 : np0 ≤ cp0) :
    Calls Try.prog 122 #[.slice Ap0 np0 cp0] w (fun e w' => ∃ v0_ : Value, e = .returned (.agg #[.int .i64 r.f0, .string r.f1, v0_]) ∧ Hp noFP w w' [.own (Zd.slice 107 q107) r.f2 [v0_]]) := by
 obtain rfl := C_len gp0
 have HS := Hp.start w
 have H := Aside0.mk h
 clear h
 unfold spec_l14Texts.f at H
 go_enter Try.func122, Try.ntmps122
 go_wp2_with (first | ((with_reducible refine gate_dst (N := 2) rfl ?_); refine ev_box rfl HS (by first | (go_simp; done) | (go_simp; rfl)) rfl ?_; clear HS; (try clear F); intro g2 w2 HS; replace HS : Hp noFP w _ [.box g2 [.int .i64 0, .string (⟨#[]⟩ : ByteArray), .slice none 0 0] 107] := HS; have F := HS.boxes; simp only [boxFacts, and_true] at F) | ((with_reducible refine gate_dst (N := 3) rfl ?_); refine ev_box rfl HS (by first | (go_simp; done) | (go_simp; rfl)) rfl ?_; clear HS; (try clear F); intro g3 w3 HS; replace HS : Hp noFP w _ [.box g2 [.int .i64 0, .string (⟨#[]⟩ : ByteArray), .slice none 0 0] 107, .box g3 [.int .i64 0, .string (⟨#[]⟩ : ByteArray), .slice none 0 0] 107] := HS; have F := HS.boxes; simp only [boxFacts, and_true] at F) | ((with_reducible refine gate_store (p := 3) rfl ?_); refine ev_store rfl 1 0 HS (seg := [.int .i64 48, .string (⟨#[]⟩ : ByteArray), .slice none 0 0]) rfl rfl rfl rfl rfl rfl (by kernel_rfl) (by simp [wrt]) (by simp [Value.oneCell']) ?_; clear HS; (try clear F); intro w5 HS; replace HS : Hp noFP w _ [.box g2 [.int .i64 0, .string (⟨#[]⟩ : ByteArray), .slice none 0 0] 107, .box g3 [.int .i64 48, .string (⟨#[]⟩ : ByteArray), .slice none 0 0] 107] := HS; have F := HS.boxes; simp only [boxFacts, and_true] at F))
 replace HS := HS.nil 107 q107
 go_loopg [4] k (fun kq v_4 w' => ∃ (l19 : List S107) (v20 : Value) (x21 : Int), v_4 = .int .i64 x21 ∧ Aside0 (spec_l14Texts.l0 kq l19 x21 a0 = some r) ∧ Aside0 (kq ≤ k) ∧ Hp noFP w w' [.box g2 [.int .i64 0, .string (⟨#[]⟩ : ByteArray), .slice none 0 0] 107, .box g3 [.int .i64 48, .string (⟨#[]⟩ : ByteArray), v20] 107, .own (Zd.slice 107 q107) l19 [v20]])
 case atStart => exact ⟨_, _, _, rfl, H, ⟨Nat.le_refl _⟩, HS⟩
 case round =>
  clear HS H; (try clear F)
  obtain ⟨l19, v20, x21, rfl, H, HKk18, HS⟩ := hrel
  obtain ⟨B20, d20, rfl, m20⟩ := HS.form 2 rfl
  have F := HS.boxes; simp only [boxFacts, and_true] at F
  cases gk with
  | zero => exact absurd H.out (by simp [spec_l14Texts.l0])
  | succ k18 =>
   simp only [spec_l14Texts.l0] at H
   by_cases c23 : x21 < (a0.length : Int)
   · replace H := zpos c23 H
     replace c23 := eq_true c23
     (try go_wp2)
     by_cases c204001 : 0 ≤ x21
     case neg => exact zno c204001 H
     replace H := zpos c204001 H
     replace c204001 := eq_true c204001
     by_cases c204002 : x21 < (a0.length : Int)
     case neg => exact zno c204002 H
     replace H := zpos c204002 H
     replace c204002 := eq_true c204002
     obtain ⟨ad204003, rfl, e204003_0⟩ := Kd.at_string gp0 x21 (of_eq_true c204001) (of_eq_true c204002)
     obtain ⟨t206001, ht206001, H⟩ := zbind H
     by_cases c208001 : l19.length + 1 ≤ 2932031007402
     case neg => exact zno c208001 H
     replace H := zpos c208001 H
     replace c208001 := eq_true c208001
     obtain ⟨y208002, e_y208002, H⟩ := zlets H
     refine dr_start2 [.box g2 [.int .i64 0, .string (⟨#[]⟩ : ByteArray), .slice none 0 0] 107, .box g3 [.int .i64 48, .string (⟨#[]⟩ : ByteArray), .slice B20 l19.length d20] 107, .emp] [10] HS (HS.arr [some 0, some 1, none] (by decide)) #[false, false, false, false, false, false, false, false, false, false, false] (by kernel_rfl) rfl rfl spec_l14Texts.tT5 (fun w25 HT HS HH => ?_)
     (try clear F)
     refine drq_of [(0, some 12), (1, some 13), (2, some 14), (3, some 15), (4, some 16)] ?_
     repeat (first | (refine drq_pure HT (v := ?_) (a' := ?_) rfl rfl (by kernel_rfl) (fun _ _ _ h => h) (.inl ⟨by rfl, ?_⟩) ?_ ?_; rotate_left; (intro w'; go_simp; with_reducible rfl); rotate_left; (simp only [Act.put, List.setIfInBounds_toArray, List.set_cons_zero, List.set_cons_succ, i64_w, i32_w]; rfl)) | (refine drq_take HT HH (v := ?_) (a' := ?_) rfl rfl (by kernel_rfl) (fun _ _ _ h => h) (.inl ⟨by rfl, ?_⟩) ?_ ?_; rotate_left; (rintro w' ⟨rs', HS'⟩; have F := HS'.boxes; simp only [boxFacts, List.cons_append, List.nil_append, and_true] at F; go_simp; with_reducible rfl); rotate_left; (simp only [Act.put, List.setIfInBounds_toArray, List.set_cons_zero, List.set_cons_succ, i64_w, i32_w]; rfl)))
     refine drq_end ?_
     refine dr_take 5 (some 17) HT HH (v := ?_) (a' := ?_) rfl rfl (by kernel_rfl) (fun _ _ _ h => h) (.inl ⟨by rfl, ?_⟩) ?_ ?_
     rotate_left
     · rintro w' ⟨rs', HS'⟩; have e204003_0 := HS'.keepc e204003_0; go_simp; with_reducible rfl
     rotate_left
     · simp only [Act.put, List.setIfInBounds_toArray, List.set_cons_zero, List.set_cons_succ, i64_w, i32_w]; rfl
     refine dr_one 6 HT rfl (by kernel_rfl) (by decide) (fun K hK => ?_)
     refine goes_ Try.func71 (by kernel_rfl) rfl #[.string (rdOf ByteArray.empty a0 x21)] (by rfl) rfl rfl (by simp only [List.map_toArray, List.map_cons, List.map_nil]; rfl) ?_; refine (spec_l09Bytes.calls ht206001.out).mono ?_; rintro _ wt206001 ⟨v206002, rfl, HQ⟩; refine ⟨_, rfl, ?_⟩; replace HS := HS.call HQ; clear HQ; (try clear F); obtain ⟨B206002, d206002, rfl, m206002⟩ := HS.form 3 rfl
     replace HS : Hp noFP w _ [.box g2 [.int .i64 0, .string (⟨#[]⟩ : ByteArray), .slice none 0 0] 107, .box g3 [.int .i64 48, .string (⟨#[]⟩ : ByteArray), .slice B20 l19.length d20] 107, .own (Zd.slice 107 q107) l19 [.slice B20 l19.length d20], .own (Zd.slice 107 q107) t206001.f2 [.slice B206002 t206001.f2.length d206002]] := HS
     have F := HS.boxes; simp only [boxFacts, and_true] at F
     refine hK.out _ _ ⟨[], HS.arr [some 0, some 1, none] (by decide)⟩ (fun HH => ?_)
     clear hK K
     refine norm_ (a' := ?_) ?_ ?_
     rotate_left
     · show Act.put _ (some 18) _ = _; simp only [Act.put, List.setIfInBounds_toArray, List.set_cons_zero, List.set_cons_succ, i64_w, i32_w]; rfl
     refine dr_one 7 HT rfl (by kernel_rfl) (by decide) (fun K hK => ?_)
     refine if_wp (by rfl) ?_; refine wp_lit q107 [3] ([t206001] : List S107) ([.int .i64 t206001.f0, .string t206001.f1, .slice B206002 t206001.f2.length d206002] ++ []) HS (by first | (go_simp; done) | (go_simp; rfl)) rfl rfl (Nat.le_of_ble_eq_true rfl) (MadeL.cons (js1 := [3]) (c := [.int .i64 t206001.f0, .string t206001.f1, .slice B206002 t206001.f2.length d206002]) rfl (fun S hd hh => q107_pack (x := t206001) hd (hh 3 (.own (Zd.slice 107 q107) t206001.f2 [.slice B206002 t206001.f2.length d206002]) rfl) (by decide)) MadeL.nil (by decide)) ?_; clear HS; (try clear F); intro v207001 w207001 HS; obtain ⟨B207001, d207001, rfl, m207001⟩ := HS.formn 1 4 rfl rfl
     replace HS : Hp noFP w _ [.box g2 [.int .i64 0, .string (⟨#[]⟩ : ByteArray), .slice none 0 0] 107, .box g3 [.int .i64 48, .string (⟨#[]⟩ : ByteArray), .slice B20 l19.length d20] 107, .own (Zd.slice 107 q107) l19 [.slice B20 l19.length d20], .emp, .own (Zd.slice 107 q107) ([t206001] : List S107) [.slice B207001 1 d207001]] := HS
     have F := HS.boxes; simp only [boxFacts, and_true] at F
     refine hK.out _ _ ⟨[], HS.arr [some 0, some 1, none] (by decide)⟩ (fun HH => ?_)
     clear hK K
     refine norm_ (a' := ?_) ?_ ?_
     rotate_left
     · show Act.put _ (some 19) _ = _; simp only [Act.put, List.setIfInBounds_toArray, List.set_cons_zero, List.set_cons_succ, i64_w, i32_w]; rfl
     refine dr_one 8 HT rfl (by kernel_rfl) (by decide) (fun K hK => ?_)
     refine if_wp (by rfl) ?_; refine wp_append q107 2 4 HS rfl rfl (by decide) rfl rfl rfl Try.underlying105 info107 rfl (by decide) (by decide) (by have := of_eq_true c208001; first | omega | (simp only [List.length_cons, List.length_nil, List.length_append, Nat.zero_add] at this ⊢; omega)) ?_; clear HS; (try clear F); intro v208002 w208002 HS; rw [← e_y208002.out] at HS; obtain ⟨B208002, d208002, rfl, m208002⟩ := HS.form 5 rfl
     replace HS : Hp noFP w _ [.box g2 [.int .i64 0, .string (⟨#[]⟩ : ByteArray), .slice none 0 0] 107, .box g3 [.int .i64 48, .string (⟨#[]⟩ : ByteArray), .slice B20 l19.length d20] 107, .emp, .emp, .emp, .own (Zd.slice 107 q107) y208002 [.slice B208002 y208002.length d208002]] := HS
     have F := HS.boxes; simp only [boxFacts, and_true] at F
     refine hK.out _ _ ⟨[], HS.arr [some 0, some 1, none] (by decide)⟩ (fun HH => ?_)
     clear hK K
     refine norm_ (a' := ?_) ?_ ?_
     rotate_left
     · show Act.put _ (some 20) _ = _; simp only [Act.put, List.setIfInBounds_toArray, List.set_cons_zero, List.set_cons_succ, i64_w, i32_w]; rfl
     refine drq_of [(9, some 21)] ?_
     repeat (first | (refine drq_pure HT (v := ?_) (a' := ?_) rfl rfl (by kernel_rfl) (fun _ _ _ h => h) (.inl ⟨by rfl, ?_⟩) ?_ ?_; rotate_left; (intro w'; go_simp; with_reducible rfl); rotate_left; (simp only [Act.put, List.setIfInBounds_toArray, List.set_cons_zero, List.set_cons_succ, i64_w, i32_w]; rfl)))
     refine drq_end ?_
     refine dr_last 10 HT rfl (by kernel_rfl) (by decide) (fun K hK => ?_)
     refine if_wp (by rfl) ?_; refine wp_store 1 2 HS (seg := [.slice B208002 y208002.length d208002]) rfl rfl rfl rfl rfl rfl (by kernel_rfl) (by simp [wrt]) (by simp [Value.oneCell']) ?_; clear HS; (try clear F); intro w210001 HS
     replace HS : Hp noFP w _ [.box g2 [.int .i64 0, .string (⟨#[]⟩ : ByteArray), .slice none 0 0] 107, .box g3 [.int .i64 48, .string (⟨#[]⟩ : ByteArray), .slice B208002 y208002.length d208002] 107, .emp, .emp, .emp, .own (Zd.slice 107 q107) y208002 [.slice B208002 y208002.length d208002]] := HS
     have F := HS.boxes; simp only [boxFacts, and_true] at F
     refine hK.out _ _ ?_
     clear hK K
     refine done_ (done_of HT.out (by kernel_rfl)) ?_
     go_wp2
     go_roundg k18
     case measure => have := HKk18.out; omega
     case rel => exact ⟨_, _, _, rfl, H, ⟨by have := HKk18.out; omega⟩, HS.pick [0, 1, 5] (by decide) (by rfl)⟩
   · replace H := zneg c23 H
     replace c23 := eq_false c23
     obtain rfl := zsome H
     go_wp2_with (first | ((with_reducible refine gate_store (p := 2) rfl ?_); refine ev_store rfl 0 0 HS (seg := [.int .i64 48, .string (⟨#[]⟩ : ByteArray), .slice B20 l19.length d20]) rfl rfl rfl rfl rfl rfl (by kernel_rfl) (by simp [wrt]) (by simp [Value.oneCell']) ?_; clear HS; (try clear F); intro w27 HS; replace HS : Hp noFP w _ [.box g2 [.int .i64 48, .string (⟨#[]⟩ : ByteArray), .slice B20 l19.length d20] 107, .box g3 [.int .i64 48, .string (⟨#[]⟩ : ByteArray), .slice B20 l19.length d20] 107, .own (Zd.slice 107 q107) l19 [.slice B20 l19.length d20]] := HS; have F := HS.boxes; simp only [boxFacts, and_true] at F))
     exact bodyPost_ret (results_single rfl (.cell _ _ _ _ _ rfl (HS.boxAt (i := 0) rfl) Try.underlying107 rfl (by kernel_rfl) .nil)) rfl ⟨_, rfl, HS.pick [2] (by decide) (by rfl)⟩
end Go.Proofs.Ytdcjcanobiohnaa.F
