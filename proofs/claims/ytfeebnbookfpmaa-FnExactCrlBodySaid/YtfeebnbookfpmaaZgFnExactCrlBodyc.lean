/- Functions of the program and of the law, and that their calls do what is written here. -/
import Derived.Test.YtfeebnbookfpmaaZgFnExactCrlBodyb
namespace Go.Proofs.Ytfeebnbookfpmaa.F
open Go.RowKit Go.Proofs.YtfeebnbookfpmaaW.PrintWords Go.Proofs.YtfeebnbookfpmaaW.PrintLast Go.Proofs.YtfeebnbookfpmaaW.PrintMore Go.Proofs.Ytfeebnbookfpmaa.Z
attribute [local go_sem] max2_int min2_int max_two min_two max_three min_three max_four min_four
set_option linter.unusedVariables false
set_option linter.unusedSimpArgs false
set_option maxRecDepth 100000
/-! ### spec_l10Item: function 111 -/
def spec_l10Item.l0 : Nat → (List S141) → Int → S54 → Option (S141)
  | 0, _, _, _ => none
  | k + 1, l21, x23, a0 => (if x23 < (a0.f5.length : Int) then (if 0 ≤ x23 then (if x23 < (a0.f5.length : Int) then ((spec_l09Ints.f k ([(rd_T119 a0.f5 x23).f0, (rd_T119 a0.f5 x23).f1] : List Int)).bind fun t215001 => (if l21.length + 1 ≤ 2932031007402 then (lets (l21 ++ ([t215001] : List S141)) fun y217002 => (spec_l10Item.l0 k y217002 (wrap64 (x23 + 1)) a0)) else none)) else none) else none) else ((spec_TextItem.f a0.f0).bind fun t302001 => ((spec_IntItem.f k a0.f1).bind fun t305001 => ((spec_IntItem.f k a0.f2).bind fun t308001 => ((spec_IntItem.f k a0.f3).bind fun t311001 => ((spec_IntItem.f k a0.f4).bind fun t314001 => (some (⟨48, (⟨#[]⟩ : ByteArray), ([t302001, t305001, t308001, t311001, t314001, (⟨48, (⟨#[]⟩ : ByteArray), l21⟩ : S141)] : List S141)⟩ : S141))))))))
def spec_l10Item.f (k : Nat) (a0 : S54) : Option (S141) := (spec_l10Item.l0 k [] 0 a0)
def spec_l10Item.T5 : Bool × List (List Nat × List Nat) := (true, [([], []), ([0], [0]), ([], []), ([2], [2]), ([], []), ([3, 4], [3, 4]), ([5], [5]), ([6], [6]), ([], []), ([8], [8]), ([], []), ([9, 10], [9, 10]), ([11], [11]), ([12], [12]), ([7, 13], [7, 13]), ([14], [14]), ([15], [15]), ([1, 16, 15], [1, 16]), ([0, 1, 2, 3, 4, 5, 6, 7, 8, 9, 10, 11, 12, 13, 14, 15, 16, 17], []), ([18, 17, 17, 0, 1, 2, 3, 4, 5, 6, 7, 8, 9, 10, 11, 12, 13, 14, 15, 16, 17], [17, 18])])
theorem spec_l10Item.tT5 : rtab .any (opsOf Try.f111 5) = spec_l10Item.T5 := by kernel_rfl
def spec_l10Item.T6 : Bool × List (List Nat × List Nat) := (true, [([], []), ([0], [0]), ([1], [1]), ([], []), ([3], [3]), ([4, 2], [4]), ([], []), ([6], [6]), ([7, 5], [7]), ([], []), ([9], [9]), ([10, 8], [10]), ([], []), ([12], [12]), ([13, 11], [13]), ([], []), ([2, 5, 8, 11, 14, 15], [2, 5, 8, 11, 14, 15]), ([16], [16]), ([17, 14, 0, 1, 2, 3, 4, 5, 6, 7, 8, 9, 10, 11, 12, 13, 14, 15, 16, 17], [17])])
theorem spec_l10Item.tT6 : rtab .any (opsOf Try.f111 6) = spec_l10Item.T6 := by kernel_rfl
set_option maxHeartbeats 16000000 in
theorem spec_l10Item.calls {k : Nat} {a0 : S54} {Ap0 : Option Addr} {np0 cp0 : Nat} {r : S141} {w : World} (h : spec_l10Item.f k a0 = some r) (gp0 : k119.C w Ap0 np0 a0.f5) (lp0 : np0 ≤ cp0) :
    Calls Try.prog 111 #[.agg #[.string a0.f0, .int .i64 a0.f1, .int .i64 a0.f2, .int .i64 a0.f3, .int .i64 a0.f4, .slice Ap0 np0 cp0, .string a0.f6]] w (fun e w' => ∃ v0_ : Value, e = .returned (.agg #[.int .i64 r.f0, .string r.f1, v0_]) ∧ Hp noFP w w' [.own (Zd.slice 141 q141) r.f2 [v0_]]) := by
 obtain rfl := C_len gp0
 have HS := Hp.start w
 have H := Aside0.mk h
 clear h
 unfold spec_l10Item.f at H
 go_enter Try.func111, Try.ntmps111
 go_wp2_with (first | ((with_reducible refine gate_dst (N := 1) rfl ?_); refine ev_box rfl HS (by first | (go_simp; done) | (go_simp; rfl)) rfl ?_; clear HS; (try clear F); intro g1 w1 HS; replace HS : Hp noFP w _ [.box g1 [.string a0.f0, .int .i64 a0.f1, .int .i64 a0.f2, .int .i64 a0.f3, .int .i64 a0.f4, .slice Ap0 a0.f5.length cp0, .string a0.f6] 54] := HS; have F := HS.boxes; simp only [boxFacts, wrt, clr0, clr1, List.cons_append, List.nil_append, List.append_nil, List.set_cons_zero, List.set_cons_succ, and_true] at F) | ((with_reducible refine gate_dst (N := 2) rfl ?_); refine ev_box rfl HS (by first | (go_simp; done) | (go_simp; rfl)) rfl ?_; clear HS; (try clear F); intro g2 w2 HS; replace HS : Hp noFP w _ [.box g1 [.string a0.f0, .int .i64 a0.f1, .int .i64 a0.f2, .int .i64 a0.f3, .int .i64 a0.f4, .slice Ap0 a0.f5.length cp0, .string a0.f6] 54, .box g2 [.int .i64 0, .string (⟨#[]⟩ : ByteArray), .slice none 0 0] 141] := HS; have F := HS.boxes; simp only [boxFacts, wrt, clr0, clr1, List.cons_append, List.nil_append, List.append_nil, List.set_cons_zero, List.set_cons_succ, and_true] at F) | ((with_reducible refine gate_dst (N := 3) rfl ?_); refine ev_box rfl HS (by first | (go_simp; done) | (go_simp; rfl)) rfl ?_; clear HS; (try clear F); intro g3 w3 HS; replace HS : Hp noFP w _ [.box g1 [.string a0.f0, .int .i64 a0.f1, .int .i64 a0.f2, .int .i64 a0.f3, .int .i64 a0.f4, .slice Ap0 a0.f5.length cp0, .string a0.f6] 54, .box g2 [.int .i64 0, .string (⟨#[]⟩ : ByteArray), .slice none 0 0] 141, .box g3 [.int .i64 0, .string (⟨#[]⟩ : ByteArray), .slice none 0 0] 141] := HS; have F := HS.boxes; simp only [boxFacts, wrt, clr0, clr1, List.cons_append, List.nil_append, List.append_nil, List.set_cons_zero, List.set_cons_succ, and_true] at F) | ((with_reducible refine gate_store (p := 3) rfl ?_); refine ev_store rfl 2 0 HS (seg := [.int .i64 48, .string (⟨#[]⟩ : ByteArray), .slice none 0 0]) rfl rfl rfl rfl rfl rfl (by kernel_rfl) (by simp [wrt]) (by simp [Value.oneCell']) ?_; clear HS; (try clear F); intro w7 HS; replace HS : Hp noFP w _ [.box g1 [.string a0.f0, .int .i64 a0.f1, .int .i64 a0.f2, .int .i64 a0.f3, .int .i64 a0.f4, .slice Ap0 a0.f5.length cp0, .string a0.f6] 54, .box g2 [.int .i64 0, .string (⟨#[]⟩ : ByteArray), .slice none 0 0] 141, .box g3 [.int .i64 48, .string (⟨#[]⟩ : ByteArray), .slice none 0 0] 141] := HS; have F := HS.boxes; simp only [boxFacts, wrt, clr0, clr1, List.cons_append, List.nil_append, List.append_nil, List.set_cons_zero, List.set_cons_succ, and_true] at F))
 replace HS := HS.nil 141 q141
 go_loopg [4] k (fun kq v_4 w' => ∃ (l21 : List S141) (v22 : Value) (x23 : Int), v_4 = .int .i64 x23 ∧ Aside0 (spec_l10Item.l0 kq l21 x23 a0 = some r) ∧ Aside0 (kq ≤ k) ∧ Hp noFP w w' [.box g1 [.string a0.f0, .int .i64 a0.f1, .int .i64 a0.f2, .int .i64 a0.f3, .int .i64 a0.f4, .slice Ap0 a0.f5.length cp0, .string a0.f6] 54, .box g2 [.int .i64 0, .string (⟨#[]⟩ : ByteArray), .slice none 0 0] 141, .box g3 [.int .i64 48, .string (⟨#[]⟩ : ByteArray), v22] 141, .own (Zd.slice 141 q141) l21 [v22]])
 case atStart => exact ⟨_, _, _, rfl, H, ⟨Nat.le_refl _⟩, HS⟩
 case round =>
  clear HS H; (try clear F)
  obtain ⟨l21, v22, x23, rfl, H, HKk20, HS⟩ := hrel
  obtain ⟨B22, d22, rfl, m22⟩ := HS.form 3 rfl
  have F := HS.boxes; simp only [boxFacts, wrt, clr0, clr1, List.cons_append, List.nil_append, List.append_nil, List.set_cons_zero, List.set_cons_succ, and_true] at F
  cases gk with
  | zero => exact absurd H.out (by simp [spec_l10Item.l0])
  | succ k20 =>
   simp only [spec_l10Item.l0] at H
   by_cases c25 : x23 < (a0.f5.length : Int)
   · replace H := zpos c25 H
     replace c25 := eq_true c25
     (try go_wp2)
     by_cases c205001 : 0 ≤ x23
     case neg => exact zno c205001 H
     replace H := zpos c205001 H
     replace c205001 := eq_true c205001
     by_cases c205002 : x23 < (a0.f5.length : Int)
     case neg => exact zno c205002 H
     replace H := zpos c205002 H
     replace c205002 := eq_true c205002
     obtain ⟨ad205003, rfl, e205003_0, e205003_1⟩ := at_T119 gp0 x23 (of_eq_true c205001) (of_eq_true c205002)
     obtain ⟨ad211001, hq211001, e211001_0, e211001_1⟩ := at_T119 gp0 x23 (of_eq_true c205001) (of_eq_true c205002)
     obtain rfl := Option.some.inj hq211001
     obtain ⟨t215001, ht215001, H⟩ := zbind H
     by_cases c217001 : l21.length + 1 ≤ 2932031007402
     case neg => exact zno c217001 H
     replace H := zpos c217001 H
     replace c217001 := eq_true c217001
     obtain ⟨y217002, e_y217002, H⟩ := zlets H
     refine dr_start2 [.box g1 [.string a0.f0, .int .i64 a0.f1, .int .i64 a0.f2, .int .i64 a0.f3, .int .i64 a0.f4, .slice (some ad205003) a0.f5.length cp0, .string a0.f6] 54, .box g2 [.int .i64 0, .string (⟨#[]⟩ : ByteArray), .slice none 0 0] 141, .box g3 [.int .i64 48, .string (⟨#[]⟩ : ByteArray), .slice B22 l21.length d22] 141, .emp] [19] HS (HS.arr [some 0, some 1, some 2, none] (by decide)) #[false, false, false, false, false, false, false, false, false, false, false, false, false, false, false, false, false, false, false, false] (by kernel_rfl) rfl rfl spec_l10Item.tT5 (fun w27 HT HS HH => ?_)
     (try clear F)
     refine dr_pure 0 (some 13) HT (v := ?_) (a' := ?_) rfl rfl (by kernel_rfl) (fun _ _ _ h => h) (.inl ⟨by rfl, ?_⟩) ?_ ?_
     rotate_left
     · intro w'; go_simp; with_reducible rfl
     rotate_left
     · simp only [Act.put, List.setIfInBounds_toArray, List.set_cons_zero, List.set_cons_succ, i64_w, i32_w]; rfl
     refine dr_take 1 (some 14) HT HH (v := ?_) (a' := ?_) rfl rfl (by kernel_rfl) (fun _ _ _ h => h) (.inl ⟨by rfl, ?_⟩) ?_ ?_
     rotate_left
     · rintro w' ⟨rs', HS'⟩; have F := HS'.boxes; simp only [boxFacts, wrt, clr0, clr1, List.cons_append, List.nil_append, List.append_nil, List.set_cons_zero, List.set_cons_succ, and_true] at F; go_simp; with_reducible rfl
     rotate_left
     · simp only [Act.put, List.setIfInBounds_toArray, List.set_cons_zero, List.set_cons_succ, i64_w, i32_w]; rfl
     refine dr_pure 2 (some 15) HT (v := ?_) (a' := ?_) rfl rfl (by kernel_rfl) (fun _ _ _ h => h) (.inl ⟨by rfl, ?_⟩) ?_ ?_
     rotate_left
     · intro w'; go_simp; with_reducible rfl
     rotate_left
     · simp only [Act.put, List.setIfInBounds_toArray, List.set_cons_zero, List.set_cons_succ, i64_w, i32_w]; rfl
     refine dr_take 3 (some 16) HT HH (v := ?_) (a' := ?_) rfl rfl (by kernel_rfl) (fun _ _ _ h => h) (.inl ⟨by rfl, ?_⟩) ?_ ?_
     rotate_left
     · rintro w' ⟨rs', HS'⟩; have F := HS'.boxes; simp only [boxFacts, wrt, clr0, clr1, List.cons_append, List.nil_append, List.append_nil, List.set_cons_zero, List.set_cons_succ, and_true] at F; go_simp; with_reducible rfl
     rotate_left
     · simp only [Act.put, List.setIfInBounds_toArray, List.set_cons_zero, List.set_cons_succ, i64_w, i32_w]; rfl
     refine dr_pure 4 (some 17) HT (v := ?_) (a' := ?_) rfl rfl (by kernel_rfl) (fun _ _ _ h => h) (.inl ⟨by rfl, ?_⟩) ?_ ?_
     rotate_left
     · intro w'; go_simp; with_reducible rfl
     rotate_left
     · simp only [Act.put, List.setIfInBounds_toArray, List.set_cons_zero, List.set_cons_succ, i64_w, i32_w]; rfl
     refine dr_pure 5 (some 18) HT (v := ?_) (a' := ?_) rfl rfl (by kernel_rfl) (fun _ _ _ h => h) (.inl ⟨by rfl, ?_⟩) ?_ ?_
     rotate_left
     · intro w'; go_simp; with_reducible rfl
     rotate_left
     · simp only [Act.put, List.setIfInBounds_toArray, List.set_cons_zero, List.set_cons_succ, i64_w, i32_w]; rfl
     refine dr_pure 6 (some 19) HT (v := ?_) (a' := ?_) rfl rfl (by kernel_rfl) (fun _ _ _ h => h) (.inl ⟨by rfl, ?_⟩) ?_ ?_
     rotate_left
     · intro w'; go_simp; with_reducible rfl
     rotate_left
     · simp only [Act.put, List.setIfInBounds_toArray, List.set_cons_zero, List.set_cons_succ, i64_w, i32_w]; rfl
     refine dr_take 7 (some 20) HT HH (v := ?_) (a' := ?_) rfl rfl (by kernel_rfl) (fun _ _ _ h => h) (.inl ⟨by rfl, ?_⟩) ?_ ?_
     rotate_left
     · rintro w' ⟨rs', HS'⟩; have e205003_0 := HS'.keepc e205003_0; have e205003_1 := HS'.keepc e205003_1; go_simp; with_reducible rfl
     rotate_left
     · simp only [Act.put, List.setIfInBounds_toArray, List.set_cons_zero, List.set_cons_succ, i64_w, i32_w]; rfl
     refine dr_pure 8 (some 21) HT (v := ?_) (a' := ?_) rfl rfl (by kernel_rfl) (fun _ _ _ h => h) (.inl ⟨by rfl, ?_⟩) ?_ ?_
     rotate_left
     · intro w'; go_simp; with_reducible rfl
     rotate_left
     · simp only [Act.put, List.setIfInBounds_toArray, List.set_cons_zero, List.set_cons_succ, i64_w, i32_w]; rfl
     refine dr_take 9 (some 22) HT HH (v := ?_) (a' := ?_) rfl rfl (by kernel_rfl) (fun _ _ _ h => h) (.inl ⟨by rfl, ?_⟩) ?_ ?_
     rotate_left
     · rintro w' ⟨rs', HS'⟩; have F := HS'.boxes; simp only [boxFacts, wrt, clr0, clr1, List.cons_append, List.nil_append, List.append_nil, List.set_cons_zero, List.set_cons_succ, and_true] at F; go_simp; with_reducible rfl
     rotate_left
     · simp only [Act.put, List.setIfInBounds_toArray, List.set_cons_zero, List.set_cons_succ, i64_w, i32_w]; rfl
     refine dr_pure 10 (some 23) HT (v := ?_) (a' := ?_) rfl rfl (by kernel_rfl) (fun _ _ _ h => h) (.inl ⟨by rfl, ?_⟩) ?_ ?_
     rotate_left
     · intro w'; go_simp; with_reducible rfl
     rotate_left
     · simp only [Act.put, List.setIfInBounds_toArray, List.set_cons_zero, List.set_cons_succ, i64_w, i32_w]; rfl
     refine dr_pure 11 (some 24) HT (v := ?_) (a' := ?_) rfl rfl (by kernel_rfl) (fun _ _ _ h => h) (.inl ⟨by rfl, ?_⟩) ?_ ?_
     rotate_left
     · intro w'; go_simp; with_reducible rfl
     rotate_left
     · simp only [Act.put, List.setIfInBounds_toArray, List.set_cons_zero, List.set_cons_succ, i64_w, i32_w]; rfl
     refine dr_pure 12 (some 25) HT (v := ?_) (a' := ?_) rfl rfl (by kernel_rfl) (fun _ _ _ h => h) (.inl ⟨by rfl, ?_⟩) ?_ ?_
     rotate_left
     · intro w'; go_simp; with_reducible rfl
     rotate_left
     · simp only [Act.put, List.setIfInBounds_toArray, List.set_cons_zero, List.set_cons_succ, i64_w, i32_w]; rfl
     refine dr_take 13 (some 26) HT HH (v := ?_) (a' := ?_) rfl rfl (by kernel_rfl) (fun _ _ _ h => h) (.inl ⟨by rfl, ?_⟩) ?_ ?_
     rotate_left
     · rintro w' ⟨rs', HS'⟩; have e211001_0 := HS'.keepc e211001_0; have e211001_1 := HS'.keepc e211001_1; go_simp; with_reducible rfl
     rotate_left
     · simp only [Act.put, List.setIfInBounds_toArray, List.set_cons_zero, List.set_cons_succ, i64_w, i32_w]; rfl
     refine dr_one 14 HT rfl (by kernel_rfl) (by decide) (fun K hK => ?_)
     refine if_wp (by rfl) ?_; refine wp_lit (Zd.int .i64) [] ([(rd_T119 a0.f5 x23).f0, (rd_T119 a0.f5 x23).f1] : List Int) ([.int .i64 ((rd_T119 a0.f5 x23).f0)] ++ ([.int .i64 ((rd_T119 a0.f5 x23).f1)] ++ [])) HS (by first | (go_simp; done) | (go_simp; rfl)) rfl rfl (Nat.le_of_ble_eq_true rfl) (MadeL.cons (js1 := []) (c := [.int .i64 ((rd_T119 a0.f5 x23).f0)]) rfl (made_flat (fun _ => rfl)) (MadeL.cons (js1 := []) (c := [.int .i64 ((rd_T119 a0.f5 x23).f1)]) rfl (made_flat (fun _ => rfl)) MadeL.nil (by decide)) (by decide)) ?_; clear HS; (try clear F); intro v214001 w214001 HS; obtain ⟨B214001, d214001, rfl, m214001⟩ := HS.formn 2 4 rfl rfl
     replace HS : Hp noFP w _ [.box g1 [.string a0.f0, .int .i64 a0.f1, .int .i64 a0.f2, .int .i64 a0.f3, .int .i64 a0.f4, .slice (some ad205003) a0.f5.length cp0, .string a0.f6] 54, .box g2 [.int .i64 0, .string (⟨#[]⟩ : ByteArray), .slice none 0 0] 141, .box g3 [.int .i64 48, .string (⟨#[]⟩ : ByteArray), .slice B22 l21.length d22] 141, .own (Zd.slice 141 q141) l21 [.slice B22 l21.length d22], .own (Zd.slice 3 (Zd.int .i64)) ([(rd_T119 a0.f5 x23).f0, (rd_T119 a0.f5 x23).f1] : List Int) [.slice B214001 2 d214001]] := HS
     have F := HS.boxes; simp only [boxFacts, wrt, clr0, clr1, List.cons_append, List.nil_append, List.append_nil, List.set_cons_zero, List.set_cons_succ, and_true] at F
     refine hK.out _ _ ⟨[], HS.arr [some 0, some 1, some 2, none] (by decide)⟩ (fun HH => ?_)
     clear hK K
     refine norm_ (a' := ?_) ?_ ?_
     rotate_left
     · show Act.put _ (some 27) _ = _; simp only [Act.put, List.setIfInBounds_toArray, List.set_cons_zero, List.set_cons_succ, i64_w, i32_w]; rfl
     refine dr_one 15 HT rfl (by kernel_rfl) (by decide) (fun K hK => ?_)
     refine goes_ Try.func131 (by kernel_rfl) rfl #[.slice B214001 2 d214001] (by rfl) rfl rfl (by simp only [List.map_toArray, List.map_cons, List.map_nil]; rfl) ?_; refine (spec_l09Ints.calls ht215001.out (HS.rd 4 rfl) m214001).mono ?_; rintro _ wt215001 ⟨v215002, rfl, HQ⟩; refine ⟨_, rfl, ?_⟩; replace HS := HS.call HQ; clear HQ; (try clear F); obtain ⟨B215002, d215002, rfl, m215002⟩ := HS.form 5 rfl
     replace HS : Hp noFP w _ [.box g1 [.string a0.f0, .int .i64 a0.f1, .int .i64 a0.f2, .int .i64 a0.f3, .int .i64 a0.f4, .slice (some ad205003) a0.f5.length cp0, .string a0.f6] 54, .box g2 [.int .i64 0, .string (⟨#[]⟩ : ByteArray), .slice none 0 0] 141, .box g3 [.int .i64 48, .string (⟨#[]⟩ : ByteArray), .slice B22 l21.length d22] 141, .own (Zd.slice 141 q141) l21 [.slice B22 l21.length d22], .own (Zd.slice 3 (Zd.int .i64)) ([(rd_T119 a0.f5 x23).f0, (rd_T119 a0.f5 x23).f1] : List Int) [.slice B214001 2 d214001], .own (Zd.slice 141 q141) t215001.f2 [.slice B215002 t215001.f2.length d215002]] := HS
     have F := HS.boxes; simp only [boxFacts, wrt, clr0, clr1, List.cons_append, List.nil_append, List.append_nil, List.set_cons_zero, List.set_cons_succ, and_true] at F
     refine hK.out _ _ ⟨[], HS.arr [some 0, some 1, some 2, none] (by decide)⟩ (fun HH => ?_)
     clear hK K
     refine norm_ (a' := ?_) ?_ ?_
     rotate_left
     · show Act.put _ (some 28) _ = _; simp only [Act.put, List.setIfInBounds_toArray, List.set_cons_zero, List.set_cons_succ, i64_w, i32_w]; rfl
     refine dr_one 16 HT rfl (by kernel_rfl) (by decide) (fun K hK => ?_)
     refine if_wp (by rfl) ?_; refine wp_lit q141 [5] ([t215001] : List S141) ([.int .i64 t215001.f0, .string t215001.f1, .slice B215002 t215001.f2.length d215002] ++ []) HS (by first | (go_simp; done) | (go_simp; rfl)) rfl rfl (Nat.le_of_ble_eq_true rfl) (MadeL.cons (js1 := [5]) (c := [.int .i64 t215001.f0, .string t215001.f1, .slice B215002 t215001.f2.length d215002]) rfl (fun S hd hh => q141_pack (x := t215001) hd (hh 5 (.own (Zd.slice 141 q141) t215001.f2 [.slice B215002 t215001.f2.length d215002]) rfl) (by decide)) MadeL.nil (by decide)) ?_; clear HS; (try clear F); intro v216001 w216001 HS; obtain ⟨B216001, d216001, rfl, m216001⟩ := HS.formn 1 6 rfl rfl
     replace HS : Hp noFP w _ [.box g1 [.string a0.f0, .int .i64 a0.f1, .int .i64 a0.f2, .int .i64 a0.f3, .int .i64 a0.f4, .slice (some ad205003) a0.f5.length cp0, .string a0.f6] 54, .box g2 [.int .i64 0, .string (⟨#[]⟩ : ByteArray), .slice none 0 0] 141, .box g3 [.int .i64 48, .string (⟨#[]⟩ : ByteArray), .slice B22 l21.length d22] 141, .own (Zd.slice 141 q141) l21 [.slice B22 l21.length d22], .own (Zd.slice 3 (Zd.int .i64)) ([(rd_T119 a0.f5 x23).f0, (rd_T119 a0.f5 x23).f1] : List Int) [.slice B214001 2 d214001], .emp, .own (Zd.slice 141 q141) ([t215001] : List S141) [.slice B216001 1 d216001]] := HS
     have F := HS.boxes; simp only [boxFacts, wrt, clr0, clr1, List.cons_append, List.nil_append, List.append_nil, List.set_cons_zero, List.set_cons_succ, and_true] at F
     refine hK.out _ _ ⟨[], HS.arr [some 0, some 1, some 2, none] (by decide)⟩ (fun HH => ?_)
     clear hK K
     refine norm_ (a' := ?_) ?_ ?_
     rotate_left
     · show Act.put _ (some 29) _ = _; simp only [Act.put, List.setIfInBounds_toArray, List.set_cons_zero, List.set_cons_succ, i64_w, i32_w]; rfl
     refine dr_one 17 HT rfl (by kernel_rfl) (by decide) (fun K hK => ?_)
     refine if_wp (by rfl) ?_; refine wp_append q141 3 6 HS rfl rfl (by decide) rfl rfl rfl Try.underlying139 info141 rfl (by decide) (by decide) (by have := of_eq_true c217001; first | omega | (simp only [List.length_cons, List.length_nil, List.length_append, Nat.zero_add] at this ⊢; omega)) ?_; clear HS; (try clear F); intro v217002 w217002 HS; rw [← e_y217002.out] at HS; obtain ⟨B217002, d217002, rfl, m217002⟩ := HS.form 7 rfl
     replace HS : Hp noFP w _ [.box g1 [.string a0.f0, .int .i64 a0.f1, .int .i64 a0.f2, .int .i64 a0.f3, .int .i64 a0.f4, .slice (some ad205003) a0.f5.length cp0, .string a0.f6] 54, .box g2 [.int .i64 0, .string (⟨#[]⟩ : ByteArray), .slice none 0 0] 141, .box g3 [.int .i64 48, .string (⟨#[]⟩ : ByteArray), .slice B22 l21.length d22] 141, .emp, .own (Zd.slice 3 (Zd.int .i64)) ([(rd_T119 a0.f5 x23).f0, (rd_T119 a0.f5 x23).f1] : List Int) [.slice B214001 2 d214001], .emp, .emp, .own (Zd.slice 141 q141) y217002 [.slice B217002 y217002.length d217002]] := HS
     have F := HS.boxes; simp only [boxFacts, wrt, clr0, clr1, List.cons_append, List.nil_append, List.append_nil, List.set_cons_zero, List.set_cons_succ, and_true] at F
     refine hK.out _ _ ⟨[], HS.arr [some 0, some 1, some 2, none] (by decide)⟩ (fun HH => ?_)
     clear hK K
     refine norm_ (a' := ?_) ?_ ?_
     rotate_left
     · show Act.put _ (some 30) _ = _; simp only [Act.put, List.setIfInBounds_toArray, List.set_cons_zero, List.set_cons_succ, i64_w, i32_w]; rfl
     refine dr_pure 18 (some 31) HT (v := ?_) (a' := ?_) rfl rfl (by kernel_rfl) (fun _ _ _ h => h) (.inl ⟨by rfl, ?_⟩) ?_ ?_
     rotate_left
     · intro w'; go_simp; with_reducible rfl
     rotate_left
     · simp only [Act.put, List.setIfInBounds_toArray, List.set_cons_zero, List.set_cons_succ, i64_w, i32_w]; rfl
     refine dr_last 19 HT rfl (by kernel_rfl) (by decide) (fun K hK => ?_)
     refine if_wp (by rfl) ?_; refine wp_store 2 2 HS (seg := [.slice B217002 y217002.length d217002]) rfl rfl rfl rfl rfl rfl (by kernel_rfl) (by simp [wrt]) (by simp [Value.oneCell']) ?_; clear HS; (try clear F); intro w219001 HS
     replace HS : Hp noFP w _ [.box g1 [.string a0.f0, .int .i64 a0.f1, .int .i64 a0.f2, .int .i64 a0.f3, .int .i64 a0.f4, .slice (some ad205003) a0.f5.length cp0, .string a0.f6] 54, .box g2 [.int .i64 0, .string (⟨#[]⟩ : ByteArray), .slice none 0 0] 141, .box g3 [.int .i64 48, .string (⟨#[]⟩ : ByteArray), .slice B217002 y217002.length d217002] 141, .emp, .own (Zd.slice 3 (Zd.int .i64)) ([(rd_T119 a0.f5 x23).f0, (rd_T119 a0.f5 x23).f1] : List Int) [.slice B214001 2 d214001], .emp, .emp, .own (Zd.slice 141 q141) y217002 [.slice B217002 y217002.length d217002]] := HS
     have F := HS.boxes; simp only [boxFacts, wrt, clr0, clr1, List.cons_append, List.nil_append, List.append_nil, List.set_cons_zero, List.set_cons_succ, and_true] at F
     refine hK.out _ _ ?_
     clear hK K
     refine done_ (done_of HT.out (by kernel_rfl)) ?_
     go_wp2
     go_roundg k20
     case measure => have := HKk20.out; omega
     case rel => exact ⟨_, _, _, rfl, H, ⟨by have := HKk20.out; omega⟩, HS.pick [0, 1, 2, 7] (by decide) (by rfl)⟩
   · replace H := zneg c25 H
     replace c25 := eq_false c25
     (try go_wp2)
     obtain ⟨t302001, ht302001, H⟩ := zbind H
     obtain ⟨t305001, ht305001, H⟩ := zbind H
     obtain ⟨t308001, ht308001, H⟩ := zbind H
     obtain ⟨t311001, ht311001, H⟩ := zbind H
     obtain ⟨t314001, ht314001, H⟩ := zbind H
     refine dr_start2 [.box g1 [.string a0.f0, .int .i64 a0.f1, .int .i64 a0.f2, .int .i64 a0.f3, .int .i64 a0.f4, .slice Ap0 a0.f5.length cp0, .string a0.f6] 54, .box g2 [.int .i64 0, .string (⟨#[]⟩ : ByteArray), .slice none 0 0] 141, .box g3 [.int .i64 48, .string (⟨#[]⟩ : ByteArray), .slice B22 l21.length d22] 141, .emp] [18] HS (HS.arr [some 0, some 1, some 2, none] (by decide)) #[false, false, false, false, false, false, false, false, false, false, false, false, false, false, false, false, false, false, false] (by kernel_rfl) rfl rfl spec_l10Item.tT6 (fun w30 HT HS HH => ?_)
     (try clear F)
     refine dr_pure 0 (some 32) HT (v := ?_) (a' := ?_) rfl rfl (by kernel_rfl) (fun _ _ _ h => h) (.inl ⟨by rfl, ?_⟩) ?_ ?_
     rotate_left
     · intro w'; go_simp; with_reducible rfl
     rotate_left
     · simp only [Act.put, List.setIfInBounds_toArray, List.set_cons_zero, List.set_cons_succ, i64_w, i32_w]; rfl
     refine dr_take 1 (some 33) HT HH (v := ?_) (a' := ?_) rfl rfl (by kernel_rfl) (fun _ _ _ h => h) (.inl ⟨by rfl, ?_⟩) ?_ ?_
     rotate_left
     · rintro w' ⟨rs', HS'⟩; have F := HS'.boxes; simp only [boxFacts, wrt, clr0, clr1, List.cons_append, List.nil_append, List.append_nil, List.set_cons_zero, List.set_cons_succ, and_true] at F; go_simp; with_reducible rfl
     rotate_left
     · simp only [Act.put, List.setIfInBounds_toArray, List.set_cons_zero, List.set_cons_succ, i64_w, i32_w]; rfl
     refine dr_pure 3 (some 35) HT (v := ?_) (a' := ?_) rfl rfl (by kernel_rfl) (fun _ _ _ h => h) (.inl ⟨by rfl, ?_⟩) ?_ ?_
     rotate_left
     · intro w'; go_simp; with_reducible rfl
     rotate_left
     · simp only [Act.put, List.setIfInBounds_toArray, List.set_cons_zero, List.set_cons_succ, i64_w, i32_w]; rfl
     refine dr_take 4 (some 36) HT HH (v := ?_) (a' := ?_) rfl rfl (by kernel_rfl) (fun _ _ _ h => h) (.inl ⟨by rfl, ?_⟩) ?_ ?_
     rotate_left
     · rintro w' ⟨rs', HS'⟩; have F := HS'.boxes; simp only [boxFacts, wrt, clr0, clr1, List.cons_append, List.nil_append, List.append_nil, List.set_cons_zero, List.set_cons_succ, and_true] at F; go_simp; with_reducible rfl
     rotate_left
     · simp only [Act.put, List.setIfInBounds_toArray, List.set_cons_zero, List.set_cons_succ, i64_w, i32_w]; rfl
     refine dr_pure 6 (some 38) HT (v := ?_) (a' := ?_) rfl rfl (by kernel_rfl) (fun _ _ _ h => h) (.inl ⟨by rfl, ?_⟩) ?_ ?_
     rotate_left
     · intro w'; go_simp; with_reducible rfl
     rotate_left
     · simp only [Act.put, List.setIfInBounds_toArray, List.set_cons_zero, List.set_cons_succ, i64_w, i32_w]; rfl
     refine dr_take 7 (some 39) HT HH (v := ?_) (a' := ?_) rfl rfl (by kernel_rfl) (fun _ _ _ h => h) (.inl ⟨by rfl, ?_⟩) ?_ ?_
     rotate_left
     · rintro w' ⟨rs', HS'⟩; have F := HS'.boxes; simp only [boxFacts, wrt, clr0, clr1, List.cons_append, List.nil_append, List.append_nil, List.set_cons_zero, List.set_cons_succ, and_true] at F; go_simp; with_reducible rfl
     rotate_left
     · simp only [Act.put, List.setIfInBounds_toArray, List.set_cons_zero, List.set_cons_succ, i64_w, i32_w]; rfl
     refine dr_pure 9 (some 41) HT (v := ?_) (a' := ?_) rfl rfl (by kernel_rfl) (fun _ _ _ h => h) (.inl ⟨by rfl, ?_⟩) ?_ ?_
     rotate_left
     · intro w'; go_simp; with_reducible rfl
     rotate_left
     · simp only [Act.put, List.setIfInBounds_toArray, List.set_cons_zero, List.set_cons_succ, i64_w, i32_w]; rfl
     refine dr_take 10 (some 42) HT HH (v := ?_) (a' := ?_) rfl rfl (by kernel_rfl) (fun _ _ _ h => h) (.inl ⟨by rfl, ?_⟩) ?_ ?_
     rotate_left
     · rintro w' ⟨rs', HS'⟩; have F := HS'.boxes; simp only [boxFacts, wrt, clr0, clr1, List.cons_append, List.nil_append, List.append_nil, List.set_cons_zero, List.set_cons_succ, and_true] at F; go_simp; with_reducible rfl
     rotate_left
     · simp only [Act.put, List.setIfInBounds_toArray, List.set_cons_zero, List.set_cons_succ, i64_w, i32_w]; rfl
     refine dr_pure 12 (some 44) HT (v := ?_) (a' := ?_) rfl rfl (by kernel_rfl) (fun _ _ _ h => h) (.inl ⟨by rfl, ?_⟩) ?_ ?_
     rotate_left
     · intro w'; go_simp; with_reducible rfl
     rotate_left
     · simp only [Act.put, List.setIfInBounds_toArray, List.set_cons_zero, List.set_cons_succ, i64_w, i32_w]; rfl
     refine dr_take 13 (some 45) HT HH (v := ?_) (a' := ?_) rfl rfl (by kernel_rfl) (fun _ _ _ h => h) (.inl ⟨by rfl, ?_⟩) ?_ ?_
     rotate_left
     · rintro w' ⟨rs', HS'⟩; have F := HS'.boxes; simp only [boxFacts, wrt, clr0, clr1, List.cons_append, List.nil_append, List.append_nil, List.set_cons_zero, List.set_cons_succ, and_true] at F; go_simp; with_reducible rfl
     rotate_left
     · simp only [Act.put, List.setIfInBounds_toArray, List.set_cons_zero, List.set_cons_succ, i64_w, i32_w]; rfl
     refine dr_take 15 (some 47) HT HH (v := ?_) (a' := ?_) rfl rfl (by kernel_rfl) (fun _ _ _ h => h) (.inl ⟨by rfl, ?_⟩) ?_ ?_
     rotate_left
     · rintro w' ⟨rs', HS'⟩; have F := HS'.boxes; simp only [boxFacts, wrt, clr0, clr1, List.cons_append, List.nil_append, List.append_nil, List.set_cons_zero, List.set_cons_succ, and_true] at F; go_simp; with_reducible rfl
     rotate_left
     · simp only [Act.put, List.setIfInBounds_toArray, List.set_cons_zero, List.set_cons_succ, i64_w, i32_w]; rfl
     refine dr_one 2 HT rfl (by kernel_rfl) (by decide) (fun K hK => ?_)
     refine goes_ Try.func132 (by kernel_rfl) rfl #[.string a0.f0] (by rfl) rfl rfl (by simp only [List.map_toArray, List.map_cons, List.map_nil]; rfl) ?_; refine (spec_TextItem.calls ht302001.out).mono ?_; rintro _ wt302001 ⟨v302002, rfl, HQ⟩; refine ⟨_, rfl, ?_⟩; replace HS := HS.call HQ; clear HQ; (try clear F); obtain ⟨B302002, d302002, rfl, m302002⟩ := HS.form 4 rfl
     replace HS : Hp noFP w _ [.box g1 [.string a0.f0, .int .i64 a0.f1, .int .i64 a0.f2, .int .i64 a0.f3, .int .i64 a0.f4, .slice Ap0 a0.f5.length cp0, .string a0.f6] 54, .box g2 [.int .i64 0, .string (⟨#[]⟩ : ByteArray), .slice none 0 0] 141, .box g3 [.int .i64 48, .string (⟨#[]⟩ : ByteArray), .slice B22 l21.length d22] 141, .own (Zd.slice 141 q141) l21 [.slice B22 l21.length d22], .own (Zd.slice 141 q141) t302001.f2 [.slice B302002 t302001.f2.length d302002]] := HS
     have F := HS.boxes; simp only [boxFacts, wrt, clr0, clr1, List.cons_append, List.nil_append, List.append_nil, List.set_cons_zero, List.set_cons_succ, and_true] at F
     refine hK.out _ _ ⟨[], HS.arr [some 0, some 1, some 2, none] (by decide)⟩ (fun HH => ?_)
     clear hK K
     refine norm_ (a' := ?_) ?_ ?_
     rotate_left
     · show Act.put _ (some 34) _ = _; simp only [Act.put, List.setIfInBounds_toArray, List.set_cons_zero, List.set_cons_succ, i64_w, i32_w]; rfl
     refine dr_one 5 HT rfl (by kernel_rfl) (by decide) (fun K hK => ?_)
     refine goes_ Try.func115 (by kernel_rfl) rfl #[.int .i64 a0.f1] (by rfl) rfl rfl (by simp only [List.map_toArray, List.map_cons, List.map_nil]; rfl) ?_; refine (spec_IntItem.calls ht305001.out).mono ?_; rintro _ wt305001 ⟨v305002, rfl, HQ⟩; refine ⟨_, rfl, ?_⟩; replace HS := HS.call HQ; clear HQ; (try clear F); obtain ⟨B305002, d305002, rfl, m305002⟩ := HS.form 5 rfl
     replace HS : Hp noFP w _ [.box g1 [.string a0.f0, .int .i64 a0.f1, .int .i64 a0.f2, .int .i64 a0.f3, .int .i64 a0.f4, .slice Ap0 a0.f5.length cp0, .string a0.f6] 54, .box g2 [.int .i64 0, .string (⟨#[]⟩ : ByteArray), .slice none 0 0] 141, .box g3 [.int .i64 48, .string (⟨#[]⟩ : ByteArray), .slice B22 l21.length d22] 141, .own (Zd.slice 141 q141) l21 [.slice B22 l21.length d22], .own (Zd.slice 141 q141) t302001.f2 [.slice B302002 t302001.f2.length d302002], .own (Zd.slice 141 q141) t305001.f2 [.slice B305002 t305001.f2.length d305002]] := HS
     have F := HS.boxes; simp only [boxFacts, wrt, clr0, clr1, List.cons_append, List.nil_append, List.append_nil, List.set_cons_zero, List.set_cons_succ, and_true] at F
     refine hK.out _ _ ⟨[], HS.arr [some 0, some 1, some 2, none] (by decide)⟩ (fun HH => ?_)
     clear hK K
     refine norm_ (a' := ?_) ?_ ?_
     rotate_left
     · show Act.put _ (some 37) _ = _; simp only [Act.put, List.setIfInBounds_toArray, List.set_cons_zero, List.set_cons_succ, i64_w, i32_w]; rfl
     refine dr_one 8 HT rfl (by kernel_rfl) (by decide) (fun K hK => ?_)
     refine goes_ Try.func115 (by kernel_rfl) rfl #[.int .i64 a0.f2] (by rfl) rfl rfl (by simp only [List.map_toArray, List.map_cons, List.map_nil]; rfl) ?_; refine (spec_IntItem.calls ht308001.out).mono ?_; rintro _ wt308001 ⟨v308002, rfl, HQ⟩; refine ⟨_, rfl, ?_⟩; replace HS := HS.call HQ; clear HQ; (try clear F); obtain ⟨B308002, d308002, rfl, m308002⟩ := HS.form 6 rfl
     replace HS : Hp noFP w _ [.box g1 [.string a0.f0, .int .i64 a0.f1, .int .i64 a0.f2, .int .i64 a0.f3, .int .i64 a0.f4, .slice Ap0 a0.f5.length cp0, .string a0.f6] 54, .box g2 [.int .i64 0, .string (⟨#[]⟩ : ByteArray), .slice none 0 0] 141, .box g3 [.int .i64 48, .string (⟨#[]⟩ : ByteArray), .slice B22 l21.length d22] 141, .own (Zd.slice 141 q141) l21 [.slice B22 l21.length d22], .own (Zd.slice 141 q141) t302001.f2 [.slice B302002 t302001.f2.length d302002], .own (Zd.slice 141 q141) t305001.f2 [.slice B305002 t305001.f2.length d305002], .own (Zd.slice 141 q141) t308001.f2 [.slice B308002 t308001.f2.length d308002]] := HS
     have F := HS.boxes; simp only [boxFacts, wrt, clr0, clr1, List.cons_append, List.nil_append, List.append_nil, List.set_cons_zero, List.set_cons_succ, and_true] at F
     refine hK.out _ _ ⟨[], HS.arr [some 0, some 1, some 2, none] (by decide)⟩ (fun HH => ?_)
     clear hK K
     refine norm_ (a' := ?_) ?_ ?_
     rotate_left
     · show Act.put _ (some 40) _ = _; simp only [Act.put, List.setIfInBounds_toArray, List.set_cons_zero, List.set_cons_succ, i64_w, i32_w]; rfl
     refine dr_one 11 HT rfl (by kernel_rfl) (by decide) (fun K hK => ?_)
     refine goes_ Try.func115 (by kernel_rfl) rfl #[.int .i64 a0.f3] (by rfl) rfl rfl (by simp only [List.map_toArray, List.map_cons, List.map_nil]; rfl) ?_; refine (spec_IntItem.calls ht311001.out).mono ?_; rintro _ wt311001 ⟨v311002, rfl, HQ⟩; refine ⟨_, rfl, ?_⟩; replace HS := HS.call HQ; clear HQ; (try clear F); obtain ⟨B311002, d311002, rfl, m311002⟩ := HS.form 7 rfl
     replace HS : Hp noFP w _ [.box g1 [.string a0.f0, .int .i64 a0.f1, .int .i64 a0.f2, .int .i64 a0.f3, .int .i64 a0.f4, .slice Ap0 a0.f5.length cp0, .string a0.f6] 54, .box g2 [.int .i64 0, .string (⟨#[]⟩ : ByteArray), .slice none 0 0] 141, .box g3 [.int .i64 48, .string (⟨#[]⟩ : ByteArray), .slice B22 l21.length d22] 141, .own (Zd.slice 141 q141) l21 [.slice B22 l21.length d22], .own (Zd.slice 141 q141) t302001.f2 [.slice B302002 t302001.f2.length d302002], .own (Zd.slice 141 q141) t305001.f2 [.slice B305002 t305001.f2.length d305002], .own (Zd.slice 141 q141) t308001.f2 [.slice B308002 t308001.f2.length d308002], .own (Zd.slice 141 q141) t311001.f2 [.slice B311002 t311001.f2.length d311002]] := HS
     have F := HS.boxes; simp only [boxFacts, wrt, clr0, clr1, List.cons_append, List.nil_append, List.append_nil, List.set_cons_zero, List.set_cons_succ, and_true] at F
     refine hK.out _ _ ⟨[], HS.arr [some 0, some 1, some 2, none] (by decide)⟩ (fun HH => ?_)
     clear hK K
     refine norm_ (a' := ?_) ?_ ?_
     rotate_left
     · show Act.put _ (some 43) _ = _; simp only [Act.put, List.setIfInBounds_toArray, List.set_cons_zero, List.set_cons_succ, i64_w, i32_w]; rfl
     refine dr_one 14 HT rfl (by kernel_rfl) (by decide) (fun K hK => ?_)
     refine goes_ Try.func115 (by kernel_rfl) rfl #[.int .i64 a0.f4] (by rfl) rfl rfl (by simp only [List.map_toArray, List.map_cons, List.map_nil]; rfl) ?_; refine (spec_IntItem.calls ht314001.out).mono ?_; rintro _ wt314001 ⟨v314002, rfl, HQ⟩; refine ⟨_, rfl, ?_⟩; replace HS := HS.call HQ; clear HQ; (try clear F); obtain ⟨B314002, d314002, rfl, m314002⟩ := HS.form 8 rfl
     replace HS : Hp noFP w _ [.box g1 [.string a0.f0, .int .i64 a0.f1, .int .i64 a0.f2, .int .i64 a0.f3, .int .i64 a0.f4, .slice Ap0 a0.f5.length cp0, .string a0.f6] 54, .box g2 [.int .i64 0, .string (⟨#[]⟩ : ByteArray), .slice none 0 0] 141, .box g3 [.int .i64 48, .string (⟨#[]⟩ : ByteArray), .slice B22 l21.length d22] 141, .own (Zd.slice 141 q141) l21 [.slice B22 l21.length d22], .own (Zd.slice 141 q141) t302001.f2 [.slice B302002 t302001.f2.length d302002], .own (Zd.slice 141 q141) t305001.f2 [.slice B305002 t305001.f2.length d305002], .own (Zd.slice 141 q141) t308001.f2 [.slice B308002 t308001.f2.length d308002], .own (Zd.slice 141 q141) t311001.f2 [.slice B311002 t311001.f2.length d311002], .own (Zd.slice 141 q141) t314001.f2 [.slice B314002 t314001.f2.length d314002]] := HS
     have F := HS.boxes; simp only [boxFacts, wrt, clr0, clr1, List.cons_append, List.nil_append, List.append_nil, List.set_cons_zero, List.set_cons_succ, and_true] at F
     refine hK.out _ _ ⟨[], HS.arr [some 0, some 1, some 2, none] (by decide)⟩ (fun HH => ?_)
     clear hK K
     refine norm_ (a' := ?_) ?_ ?_
     rotate_left
     · show Act.put _ (some 46) _ = _; simp only [Act.put, List.setIfInBounds_toArray, List.set_cons_zero, List.set_cons_succ, i64_w, i32_w]; rfl
     refine dr_one 16 HT rfl (by kernel_rfl) (by decide) (fun K hK => ?_)
     refine if_wp (by rfl) ?_; refine wp_lit q141 [4, 5, 6, 7, 8, 3] ([t302001, t305001, t308001, t311001, t314001, (⟨48, (⟨#[]⟩ : ByteArray), l21⟩ : S141)] : List S141) ([.int .i64 t302001.f0, .string t302001.f1, .slice B302002 t302001.f2.length d302002] ++ ([.int .i64 t305001.f0, .string t305001.f1, .slice B305002 t305001.f2.length d305002] ++ ([.int .i64 t308001.f0, .string t308001.f1, .slice B308002 t308001.f2.length d308002] ++ ([.int .i64 t311001.f0, .string t311001.f1, .slice B311002 t311001.f2.length d311002] ++ ([.int .i64 t314001.f0, .string t314001.f1, .slice B314002 t314001.f2.length d314002] ++ ([.int .i64 48, .string (⟨#[]⟩ : ByteArray), .slice B22 l21.length d22] ++ [])))))) HS (by first | (go_simp; done) | (go_simp; rfl)) rfl rfl (Nat.le_of_ble_eq_true rfl) (MadeL.cons (js1 := [4]) (c := [.int .i64 t302001.f0, .string t302001.f1, .slice B302002 t302001.f2.length d302002]) rfl (fun S hd hh => q141_pack (x := t302001) hd (hh 4 (.own (Zd.slice 141 q141) t302001.f2 [.slice B302002 t302001.f2.length d302002]) rfl) (by decide)) (MadeL.cons (js1 := [5]) (c := [.int .i64 t305001.f0, .string t305001.f1, .slice B305002 t305001.f2.length d305002]) rfl (fun S hd hh => q141_pack (x := t305001) hd (hh 5 (.own (Zd.slice 141 q141) t305001.f2 [.slice B305002 t305001.f2.length d305002]) rfl) (by decide)) (MadeL.cons (js1 := [6]) (c := [.int .i64 t308001.f0, .string t308001.f1, .slice B308002 t308001.f2.length d308002]) rfl (fun S hd hh => q141_pack (x := t308001) hd (hh 6 (.own (Zd.slice 141 q141) t308001.f2 [.slice B308002 t308001.f2.length d308002]) rfl) (by decide)) (MadeL.cons (js1 := [7]) (c := [.int .i64 t311001.f0, .string t311001.f1, .slice B311002 t311001.f2.length d311002]) rfl (fun S hd hh => q141_pack (x := t311001) hd (hh 7 (.own (Zd.slice 141 q141) t311001.f2 [.slice B311002 t311001.f2.length d311002]) rfl) (by decide)) (MadeL.cons (js1 := [8]) (c := [.int .i64 t314001.f0, .string t314001.f1, .slice B314002 t314001.f2.length d314002]) rfl (fun S hd hh => q141_pack (x := t314001) hd (hh 8 (.own (Zd.slice 141 q141) t314001.f2 [.slice B314002 t314001.f2.length d314002]) rfl) (by decide)) (MadeL.cons (js1 := [3]) (c := [.int .i64 48, .string (⟨#[]⟩ : ByteArray), .slice B22 l21.length d22]) rfl (fun S hd hh => q141_pack (x := (⟨48, (⟨#[]⟩ : ByteArray), l21⟩ : S141)) hd (hh 3 (.own (Zd.slice 141 q141) l21 [.slice B22 l21.length d22]) rfl) (by decide)) MadeL.nil (by decide)) (by decide)) (by decide)) (by decide)) (by decide)) (by decide)) ?_; clear HS; (try clear F); intro v316001 w316001 HS; obtain ⟨B316001, d316001, rfl, m316001⟩ := HS.formn 6 9 rfl rfl
     replace HS : Hp noFP w _ [.box g1 [.string a0.f0, .int .i64 a0.f1, .int .i64 a0.f2, .int .i64 a0.f3, .int .i64 a0.f4, .slice Ap0 a0.f5.length cp0, .string a0.f6] 54, .box g2 [.int .i64 0, .string (⟨#[]⟩ : ByteArray), .slice none 0 0] 141, .box g3 [.int .i64 48, .string (⟨#[]⟩ : ByteArray), .slice B22 l21.length d22] 141, .emp, .emp, .emp, .emp, .emp, .emp, .own (Zd.slice 141 q141) ([t302001, t305001, t308001, t311001, t314001, (⟨48, (⟨#[]⟩ : ByteArray), l21⟩ : S141)] : List S141) [.slice B316001 6 d316001]] := HS
     have F := HS.boxes; simp only [boxFacts, wrt, clr0, clr1, List.cons_append, List.nil_append, List.append_nil, List.set_cons_zero, List.set_cons_succ, and_true] at F
     refine hK.out _ _ ⟨[], HS.arr [some 0, some 1, some 2, none] (by decide)⟩ (fun HH => ?_)
     clear hK K
     refine norm_ (a' := ?_) ?_ ?_
     rotate_left
     · show Act.put _ (some 48) _ = _; simp only [Act.put, List.setIfInBounds_toArray, List.set_cons_zero, List.set_cons_succ, i64_w, i32_w]; rfl
     refine dr_pure 17 (some 49) HT (v := ?_) (a' := ?_) rfl rfl (by kernel_rfl) (fun _ _ _ h => h) (.inl ⟨by rfl, ?_⟩) ?_ ?_
     rotate_left
     · intro w'; go_simp; with_reducible rfl
     rotate_left
     · simp only [Act.put, List.setIfInBounds_toArray, List.set_cons_zero, List.set_cons_succ, i64_w, i32_w]; rfl
     refine dr_last 18 HT rfl (by kernel_rfl) (by decide) (fun K hK => ?_)
     refine if_wp (by rfl) ?_; refine wp_store 1 0 HS (seg := [.int .i64 48, .string (⟨#[]⟩ : ByteArray), .slice B316001 6 d316001]) rfl rfl rfl rfl rfl rfl (by kernel_rfl) (by simp [wrt]) (by simp [Value.oneCell']) ?_; clear HS; (try clear F); intro w318001 HS
     replace HS : Hp noFP w _ [.box g1 [.string a0.f0, .int .i64 a0.f1, .int .i64 a0.f2, .int .i64 a0.f3, .int .i64 a0.f4, .slice Ap0 a0.f5.length cp0, .string a0.f6] 54, .box g2 [.int .i64 48, .string (⟨#[]⟩ : ByteArray), .slice B316001 6 d316001] 141, .box g3 [.int .i64 48, .string (⟨#[]⟩ : ByteArray), .slice B22 l21.length d22] 141, .emp, .emp, .emp, .emp, .emp, .emp, .own (Zd.slice 141 q141) ([t302001, t305001, t308001, t311001, t314001, (⟨48, (⟨#[]⟩ : ByteArray), l21⟩ : S141)] : List S141) [.slice B316001 6 d316001]] := HS
     have F := HS.boxes; simp only [boxFacts, wrt, clr0, clr1, List.cons_append, List.nil_append, List.append_nil, List.set_cons_zero, List.set_cons_succ, and_true] at F
     refine hK.out _ _ ?_
     clear hK K
     refine done_ (done_of HT.out (by kernel_rfl)) ?_
     obtain rfl := zsome H
     go_wp2
     exact bodyPost_ret (results_single rfl (.cell _ _ _ _ _ rfl (HS.boxAt (i := 1) rfl) Try.underlying141 rfl (by kernel_rfl) .nil)) rfl ⟨_, rfl, HS.pick [9] (by decide) (by rfl)⟩
/-! ### spec_CrlBody: function 68 -/
def spec_CrlBody.f (k : Nat) (a0 : S54) : Option (ByteArray) := ((spec_l10Item.f k a0).bind fun t3 => ((spec_ItemText.f k t3).bind fun t6 => (some t6.1)))
set_option maxHeartbeats 16000000 in
theorem spec_CrlBody.calls {k : Nat} {a0 : S54} {Ap0 : Option Addr} {np0 cp0 : Nat} {r : ByteArray} {w : World} (h : spec_CrlBody.f k a0 = some r) (gp0 : k119.C w Ap0 np0 a0.f5) (lp0 : np0 ≤ cp0) :
    Calls Try.prog 68 #[.agg #[.string a0.f0, .int .i64 a0.f1, .int .i64 a0.f2, .int .i64 a0.f3, .int .i64 a0.f4, .slice Ap0 np0 cp0, .string a0.f6]] w (fun e w' => e = .returned (.string r) ∧ Hp noFP w w' []) := by
 obtain rfl := C_len gp0
 have HS := Hp.start w
 have H := Aside0.mk h
 clear h
 unfold spec_CrlBody.f at H
 go_enter Try.func68, Try.ntmps68
 obtain ⟨t3, ht3, H⟩ := zbind H
 obtain ⟨t6, ht6, H⟩ := zbind H
 obtain rfl := zsome H
 go_wp2_with (first | ((with_reducible refine gate_dst (N := 1) rfl ?_); refine ev_box rfl HS (by first | (go_simp; done) | (go_simp; rfl)) rfl ?_; clear HS; (try clear F); intro g1 w1 HS; replace HS : Hp noFP w _ [.box g1 [.string a0.f0, .int .i64 a0.f1, .int .i64 a0.f2, .int .i64 a0.f3, .int .i64 a0.f4, .slice Ap0 a0.f5.length cp0, .string a0.f6] 54] := HS; have F := HS.boxes; simp only [boxFacts, wrt, clr0, clr1, List.cons_append, List.nil_append, List.append_nil, List.set_cons_zero, List.set_cons_succ, and_true] at F) | ((with_reducible refine gate_dst (N := 7) rfl ?_); refine ev_call rfl Try.func111 (by kernel_rfl) rfl #[.agg #[.string a0.f0, .int .i64 a0.f1, .int .i64 a0.f2, .int .i64 a0.f3, .int .i64 a0.f4, .slice Ap0 a0.f5.length cp0, .string a0.f6]] rfl (by simp only [List.map_toArray, List.map_cons, List.map_nil]; rfl) ?_; refine (spec_l10Item.calls ht3.out (HS.ro gp0) lp0).mono ?_; rintro _ wt3 ⟨v4, rfl, HQ⟩; refine ⟨_, rfl, ?_⟩; replace HS := HS.call HQ; clear HQ; (try clear F); obtain ⟨B4, d4, rfl, m4⟩ := HS.form 1 rfl; replace HS : Hp noFP w _ [.box g1 [.string a0.f0, .int .i64 a0.f1, .int .i64 a0.f2, .int .i64 a0.f3, .int .i64 a0.f4, .slice Ap0 a0.f5.length cp0, .string a0.f6] 54, .own (Zd.slice 141 q141) t3.f2 [.slice B4 t3.f2.length d4]] := HS; have F := HS.boxes; simp only [boxFacts, wrt, clr0, clr1, List.cons_append, List.nil_append, List.append_nil, List.set_cons_zero, List.set_cons_succ, and_true] at F) | ((with_reducible refine gate_dst (N := 8) rfl ?_); refine ev_call rfl Try.func110 (by kernel_rfl) rfl #[.agg #[.int .i64 t3.f0, .string t3.f1, .slice B4 t3.f2.length d4]] rfl (by simp only [List.map_toArray, List.map_cons, List.map_nil]; rfl) ?_; refine (spec_ItemText.calls ht6.out (HS.rd 1 rfl) m4).mono ?_; rintro _ wt6 ⟨rfl, HQ⟩; refine ⟨_, rfl, ?_⟩; replace HS := HS.call HQ; clear HQ; (try clear F); replace HS : Hp noFP w _ [.box g1 [.string a0.f0, .int .i64 a0.f1, .int .i64 a0.f2, .int .i64 a0.f3, .int .i64 a0.f4, .slice Ap0 a0.f5.length cp0, .string a0.f6] 54, .own (Zd.slice 141 q141) t3.f2 [.slice B4 t3.f2.length d4]] := HS; have F := HS.boxes; simp only [boxFacts, wrt, clr0, clr1, List.cons_append, List.nil_append, List.append_nil, List.set_cons_zero, List.set_cons_succ, and_true] at F))
 go_ret
 exact ⟨rfl, HS.pick [] (by decide) (by rfl)⟩
/-! ### impl_within: function 73 -/
def impl_within.f (a0 : Int) (a1 : Int) (a2 : Int) : Option (Bool) := (if a1 ≤ a0 then (some (decide (a0 ≤ a2))) else (some false))
set_option maxHeartbeats 16000000 in
theorem impl_within.calls {a0 : Int} {a1 : Int} {a2 : Int} {r : Bool} {w : World} (h : impl_within.f a0 a1 a2 = some r) :
    Calls Try.prog 73 #[.int .i64 a0, .int .i64 a1, .int .i64 a2] w (fun e w' => e = .returned (.bool r) ∧ Hp noFP w w' []) := by
 have HS := Hp.start w
 have H := Aside0.mk h
 clear h
 unfold impl_within.f at H
 go_enter Try.func73, Try.ntmps73
 by_cases c1 : a1 ≤ a0
 · replace H := zpos c1 H
   replace c1 := eq_true c1
   obtain rfl := zsome H
   go_wp2
   go_ret
   exact ⟨rfl, HS.pick [] (by decide) (by rfl)⟩
 · replace H := zneg c1 H
   replace c1 := eq_false c1
   obtain rfl := zsome H
   go_wp2
   go_ret
   exact ⟨rfl, HS.pick [] (by decide) (by rfl)⟩
/-! ### impl_bytesIn: function 146 -/
def impl_bytesIn.l0 : Nat → Int → ByteArray → Int → Int → Option (Bool)
  | 0, _, _, _, _ => none
  | k + 1, x4, a0, a1, a2 => (if x4 < (a0.size : Int) then (if 0 ≤ x4 then (if x4 < (a0.size : Int) then ((impl_within.f (wrap64 (bt a0 x4)) a1 a2).bind fun t10 => (if t10 = true then (impl_bytesIn.l0 k (wrap64 (x4 + 1)) a0 a1 a2) else (some false))) else none) else none) else (some true))
def impl_bytesIn.f (k : Nat) (a0 : ByteArray) (a1 : Int) (a2 : Int) : Option (Bool) := (impl_bytesIn.l0 k 0 a0 a1 a2)
set_option maxHeartbeats 16000000 in
theorem impl_bytesIn.calls {k : Nat} {a0 : ByteArray} {a1 : Int} {a2 : Int} {r : Bool} {w : World} (h : impl_bytesIn.f k a0 a1 a2 = some r) :
    Calls Try.prog 146 #[.string a0, .int .i64 a1, .int .i64 a2] w (fun e w' => e = .returned (.bool r) ∧ Hp noFP w w' []) := by
 have HS := Hp.start w
 have H := Aside0.mk h
 clear h
 unfold impl_bytesIn.f at H
 go_enter Try.func146, Try.ntmps146
 go_wp2
 go_loopg [7] k (fun kq v_7 w' => ∃ (x4 : Int), v_7 = .int .i64 x4 ∧ Aside0 (impl_bytesIn.l0 kq x4 a0 a1 a2 = some r) ∧ Aside0 (kq ≤ k) ∧ Hp noFP w w' [])
 case atStart => exact ⟨_, rfl, H, ⟨Nat.le_refl _⟩, HS⟩
 case round =>
  clear HS H; (try clear F)
  obtain ⟨x4, rfl, H, HKk3, HS⟩ := hrel
  cases gk with
  | zero => exact absurd H.out (by simp [impl_bytesIn.l0])
  | succ k3 =>
   simp only [impl_bytesIn.l0] at H
   by_cases c6 : x4 < (a0.size : Int)
   · replace H := zpos c6 H
     replace c6 := eq_true c6
     by_cases c7 : 0 ≤ x4
     case neg => exact zno c7 H
     replace H := zpos c7 H
     replace c7 := eq_true c7
     by_cases c8 : x4 < (a0.size : Int)
     case neg => exact zno c8 H
     replace H := zpos c8 H
     replace c8 := eq_true c8
     have hx9 := bt_at a0 x4
     obtain ⟨t10, ht10, H⟩ := zbind H
     go_upto_if 21 with (first | ((with_reducible refine gate_dst (N := 20) rfl ?_); refine ev_call rfl Try.func73 (by kernel_rfl) rfl #[.int .i64 (wrap64 (bt a0 x4)), .int .i64 a1, .int .i64 a2] rfl (by simp only [List.map_toArray, List.map_cons, List.map_nil]; rfl) ?_; refine (impl_within.calls ht10.out).mono ?_; rintro _ wt10 ⟨rfl, HQ⟩; refine ⟨_, rfl, ?_⟩; replace HS := HS.call HQ; clear HQ; (try clear F); replace HS : Hp noFP w _ [] := HS))
     by_cases c12 : t10 = true
     · replace H := zpos c12 H
       (try simp only [c12, decide_true, decide_false, Bool.not_true, Bool.not_false])
       go_wp2
       go_roundg k3
       case measure => have := HKk3.out; omega
       case rel => exact ⟨_, rfl, H, ⟨by have := HKk3.out; omega⟩, HS.pick [] (by decide) (by rfl)⟩
     · replace H := zneg c12 H
       replace c12 := eq_false_of_ne_true c12
       (try simp only [c12, decide_true, decide_false, Bool.not_true, Bool.not_false])
       obtain rfl := zsome H
       go_wp2
       go_ret
       exact ⟨rfl, HS.pick [] (by decide) (by rfl)⟩
   · replace H := zneg c6 H
     replace c6 := eq_false c6
     obtain rfl := zsome H
     go_wp2
     go_ret
     exact ⟨rfl, HS.pick [] (by decide) (by rfl)⟩
/-! ### impl_itemOk: function 143 -/
mutual
def impl_itemOk.l0 : Nat → Int → S141 → Int → Option (Bool)
  | 0, _, _, _ => none
  | k + 1, x10, a0, a1 => (if x10 < (a0.f2.length : Int) then (if 0 ≤ x10 then (if x10 < (a0.f2.length : Int) then ((impl_itemOk.f k (rd_T141 a0.f2 x10) (wrap64 (a1 + 1))).bind fun t20 => (if t20 = true then (impl_itemOk.l0 k (wrap64 (x10 + 1)) a0 a1) else (some false))) else none) else none) else (some true))
def impl_itemOk.f : Nat → S141 → Int → Option (Bool)
  | 0, _, _ => none
  | k + 1, a0, a1 => (if a0.f0 = 48 then (if a0.f1.toList = ([] : List UInt8) then (if 40 < (a0.f2.length : Int) then (some false) else (if 6 ≤ a1 then (some false) else (impl_itemOk.l0 k 0 a0 a1))) else (some false)) else (if 0 < (a0.f2.length : Int) then (some false) else (if a0.f0 = 1 then (if a0.f1.toList = ([0] : List UInt8) then (some true) else (some (a0.f1.toList == ([255] : List UInt8)))) else (if a0.f0 = 2 then ((impl_within.f (a0.f1.size : Int) 1 5).bind fun t27 => (if t27 = true then (if 0 < (a0.f1.size : Int) then (if (bt a0.f1 0) < 128 then (if (bt a0.f1 0) = 0 then (if (a0.f1.size : Int) = 1 then (some true) else (if 1 < (a0.f1.size : Int) then (some (decide (128 ≤ (bt a0.f1 1)))) else none)) else (some true)) else (some false)) else none) else (some false))) else (if a0.f0 = 4 then (some true) else (if a0.f0 = 12 then ((impl_bytesIn.f k a0.f1 32 126).bind fun t43 => (some t43)) else (some false)))))))
end
set_option maxHeartbeats 16000000 in
theorem impl_itemOk.calls_ (K : Nat) : ∀ {k : Nat} (hK : k ≤ K) {a0 : S141} {a1 : Int} {Ap0 : Option Addr} {np0 cp0 : Nat} {r : Bool} {w : World} (h : impl_itemOk.f k a0 a1 = some r) (gp0 : k141.C w Ap0 np0 a0.f2) (lp0 : np0 ≤ cp0),
    Calls Try.prog 143 #[.agg #[.int .i64 a0.f0, .string a0.f1, .slice Ap0 np0 cp0], .int .i64 a1] w (fun e w' => e = .returned (.bool r) ∧ Hp noFP w w' []) := by
  induction K with
  | zero =>
    intro k hK a0 a1 Ap0 np0 cp0 r w h gp0 lp0
    obtain rfl : k = 0 := by omega
    exact absurd h (by simp [impl_itemOk.f])
  | succ K IH =>
    intro k hK a0 a1 Ap0 np0 cp0 r w h gp0 lp0
    cases k with
    | zero => exact absurd h (by simp [impl_itemOk.f])
    | succ k =>
    have HK0 : Aside0 (k ≤ K) := ⟨by omega⟩
    clear hK
    obtain rfl := C_len gp0
    have HS := Hp.start w
    have H := Aside0.mk h
    clear h
    simp only [impl_itemOk.f] at H
    go_enter Try.func143, Try.ntmps143
    go_upto_if 10 with (first | ((with_reducible refine gate_dst (N := 2) rfl ?_); refine ev_box rfl HS (by first | (go_simp; done) | (go_simp; rfl)) rfl ?_; clear HS; (try clear F); intro g2 w2 HS; replace HS : Hp noFP w _ [.box g2 [.int .i64 a0.f0, .string a0.f1, .slice Ap0 a0.f2.length cp0] 141] := HS; have F := HS.boxes; simp only [boxFacts, wrt, clr0, clr1, List.cons_append, List.nil_append, List.append_nil, List.set_cons_zero, List.set_cons_succ, and_true] at F))
    by_cases c3 : a0.f0 = 48
    · replace H := zpos c3 H
      have c3a := beq_iff_eq.mpr c3
      have c3b := bne_eq_false_iff_eq.mpr c3
      clear c3
      (try simp only [c3a, c3b, decide_true, decide_false, Bool.not_true, Bool.not_false])
      by_cases c4 : a0.f1.toList = ([] : List UInt8)
      · replace H := zpos c4 H
        have c4a := beq_iff_eq.mpr c4
        have c4b := bne_eq_false_iff_eq.mpr c4
        clear c4
        by_cases c5 : 40 < (a0.f2.length : Int)
        · replace H := zpos c5 H
          replace c5 := eq_true c5
          obtain rfl := zsome H
          go_wp2
          go_ret
          exact ⟨rfl, HS.pick [] (by decide) (by rfl)⟩
        · replace H := zneg c5 H
          replace c5 := eq_false c5
          by_cases c6 : 6 ≤ a1
          · replace H := zpos c6 H
            replace c6 := eq_true c6
            obtain rfl := zsome H
            go_wp2
            go_ret
            exact ⟨rfl, HS.pick [] (by decide) (by rfl)⟩
          · replace H := zneg c6 H
            replace c6 := eq_false c6
            go_wp2
            go_loopg [27] k (fun kq v_27 w' => ∃ (x10 : Int), v_27 = .int .i64 x10 ∧ Aside0 (impl_itemOk.l0 kq x10 a0 a1 = some r) ∧ Aside0 (kq ≤ k) ∧ Hp noFP w w' [.box g2 [.int .i64 a0.f0, .string a0.f1, .slice Ap0 a0.f2.length cp0] 141])
            case atStart => exact ⟨_, rfl, H, ⟨Nat.le_refl _⟩, HS⟩
            case round =>
             clear HS H; (try clear F)
             obtain ⟨x10, rfl, H, HKk9, HS⟩ := hrel
             have F := HS.boxes; simp only [boxFacts, wrt, clr0, clr1, List.cons_append, List.nil_append, List.append_nil, List.set_cons_zero, List.set_cons_succ, and_true] at F
             cases gk with
             | zero => exact absurd H.out (by simp [impl_itemOk.l0])
             | succ k9 =>
              simp only [impl_itemOk.l0] at H
              by_cases c12 : x10 < (a0.f2.length : Int)
              · replace H := zpos c12 H
                replace c12 := eq_true c12
                by_cases c13 : 0 ≤ x10
                case neg => exact zno c13 H
                replace H := zpos c13 H
                replace c13 := eq_true c13
                by_cases c14 : x10 < (a0.f2.length : Int)
                case neg => exact zno c14 H
                replace H := zpos c14 H
                replace c14 := eq_true c14
                obtain ⟨ad15, B15_2, d15_2, rfl, e15_0, e15_1, e15_2, m15_2, y15_2⟩ := at_T141 gp0 x10 (of_eq_true c13) (of_eq_true c14)
                replace e15_0 := HS.keepc e15_0
                replace e15_1 := HS.keepc e15_1
                replace e15_2 := HS.keepc e15_2
                obtain ⟨t20, ht20, H⟩ := zbind H
                go_upto_if 35 with (first | ((with_reducible refine gate_dst (N := 6) rfl ?_); refine ev_box rfl HS (by first | (go_simp; done) | (go_simp; rfl)) rfl ?_; clear HS; (try clear F); intro g6 w6 HS; replace HS : Hp noFP w _ [.box g2 [.int .i64 a0.f0, .string a0.f1, .slice (some ad15) a0.f2.length cp0] 141, .box g6 [.int .i64 0, .string (⟨#[]⟩ : ByteArray), .slice none 0 0] 141] := HS; have F := HS.boxes; simp only [boxFacts, wrt, clr0, clr1, List.cons_append, List.nil_append, List.append_nil, List.set_cons_zero, List.set_cons_succ, and_true] at F) | ((with_reducible refine gate_store (p := 6) rfl ?_); refine ev_store rfl 1 0 HS (seg := [.int .i64 ((rd_T141 a0.f2 x10).f0), .string ((rd_T141 a0.f2 x10).f1), .slice B15_2 (rd_T141 a0.f2 x10).f2.length d15_2]) rfl rfl rfl rfl rfl rfl (by kernel_rfl) (by simp [wrt]) (by simp [Value.oneCell']) ?_; clear HS; (try clear F); intro w18 HS; replace HS : Hp noFP w _ [.box g2 [.int .i64 a0.f0, .string a0.f1, .slice (some ad15) a0.f2.length cp0] 141, .box g6 [.int .i64 ((rd_T141 a0.f2 x10).f0), .string ((rd_T141 a0.f2 x10).f1), .slice B15_2 (rd_T141 a0.f2 x10).f2.length d15_2] 141] := HS; have F := HS.boxes; simp only [boxFacts, wrt, clr0, clr1, List.cons_append, List.nil_append, List.append_nil, List.set_cons_zero, List.set_cons_succ, and_true] at F) | ((with_reducible refine gate_dst (N := 34) rfl ?_); refine ev_call rfl Try.func143 (by kernel_rfl) rfl #[.agg #[.int .i64 ((rd_T141 a0.f2 x10).f0), .string ((rd_T141 a0.f2 x10).f1), .slice B15_2 (rd_T141 a0.f2 x10).f2.length d15_2], .int .i64 (wrap64 (a1 + 1))] rfl (by simp only [List.map_toArray, List.map_cons, List.map_nil]; rfl) ?_; refine (IH (by have := HK0.out; have := HKk9.out; omega) ht20.out (HS.ro y15_2) m15_2).mono ?_; rintro _ wt20 ⟨rfl, HQ⟩; refine ⟨_, rfl, ?_⟩; replace HS := HS.call HQ; clear HQ; (try clear F); replace HS : Hp noFP w _ [.box g2 [.int .i64 a0.f0, .string a0.f1, .slice (some ad15) a0.f2.length cp0] 141, .box g6 [.int .i64 ((rd_T141 a0.f2 x10).f0), .string ((rd_T141 a0.f2 x10).f1), .slice B15_2 (rd_T141 a0.f2 x10).f2.length d15_2] 141] := HS; have F := HS.boxes; simp only [boxFacts, wrt, clr0, clr1, List.cons_append, List.nil_append, List.append_nil, List.set_cons_zero, List.set_cons_succ, and_true] at F))
                by_cases c22 : t20 = true
                · replace H := zpos c22 H
                  (try simp only [c22, decide_true, decide_false, Bool.not_true, Bool.not_false])
                  go_wp2
                  go_roundg k9
                  case measure => have := HK0.out; have := HKk9.out; omega
                  case rel => exact ⟨_, rfl, H, ⟨by have := HK0.out; have := HKk9.out; omega⟩, HS.pick [0] (by decide) (by rfl)⟩
                · replace H := zneg c22 H
                  replace c22 := eq_false_of_ne_true c22
                  (try simp only [c22, decide_true, decide_false, Bool.not_true, Bool.not_false])
                  obtain rfl := zsome H
                  go_wp2
                  go_ret
                  exact ⟨rfl, HS.pick [] (by decide) (by rfl)⟩
              · replace H := zneg c12 H
                replace c12 := eq_false c12
                obtain rfl := zsome H
                go_wp2
                go_ret
                exact ⟨rfl, HS.pick [] (by decide) (by rfl)⟩
      · replace H := zneg c4 H
        have c4a := beq_eq_false_iff_ne.mpr c4
        have c4b := bne_iff_ne.mpr c4
        clear c4
        obtain rfl := zsome H
        go_wp2
        go_ret
        exact ⟨rfl, HS.pick [] (by decide) (by rfl)⟩
    · replace H := zneg c3 H
      have c3a := beq_eq_false_iff_ne.mpr c3
      have c3b := bne_iff_ne.mpr c3
      clear c3
      (try simp only [c3a, c3b, decide_true, decide_false, Bool.not_true, Bool.not_false])
      by_cases c23 : 0 < (a0.f2.length : Int)
      · replace H := zpos c23 H
        replace c23 := eq_true c23
        have c23n := (propext (Int.natCast_pos (n := a0.f2.length))).symm.trans c23
        obtain rfl := zsome H
        go_wp2
        go_ret
        exact ⟨rfl, HS.pick [] (by decide) (by rfl)⟩
      · replace H := zneg c23 H
        replace c23 := eq_false c23
        have c23n := (propext (Int.natCast_pos (n := a0.f2.length))).symm.trans c23
        by_cases c24 : a0.f0 = 1
        · replace H := zpos c24 H
          have c24a := beq_iff_eq.mpr c24
          have c24b := bne_eq_false_iff_eq.mpr c24
          clear c24
          by_cases c25 : a0.f1.toList = ([0] : List UInt8)
          · replace H := zpos c25 H
            have c25a := beq_iff_eq.mpr c25
            have c25b := bne_eq_false_iff_eq.mpr c25
            clear c25
            obtain rfl := zsome H
            go_wp2
            go_ret
            exact ⟨rfl, HS.pick [] (by decide) (by rfl)⟩
          · replace H := zneg c25 H
            have c25a := beq_eq_false_iff_ne.mpr c25
            have c25b := bne_iff_ne.mpr c25
            clear c25
            obtain rfl := zsome H
            go_wp2
            go_ret
            exact ⟨rfl, HS.pick [] (by decide) (by rfl)⟩
        · replace H := zneg c24 H
          have c24a := beq_eq_false_iff_ne.mpr c24
          have c24b := bne_iff_ne.mpr c24
          clear c24
          by_cases c26 : a0.f0 = 2
          · replace H := zpos c26 H
            have c26a := beq_iff_eq.mpr c26
            have c26b := bne_eq_false_iff_eq.mpr c26
            clear c26
            obtain ⟨t27, ht27, H⟩ := zbind H
            by_cases c29 : t27 = true
            · replace H := zpos c29 H
              by_cases c30 : 0 < (a0.f1.size : Int)
              case neg => exact zno c30 H
              replace H := zpos c30 H
              replace c30 := eq_true c30
              have c30n : (0 < a0.f1.size) = True := eq_true (by have := of_eq_true c30; omega)
              by_cases c33 : (bt a0.f1 0) < 128
              · replace H := zpos c33 H
                replace c33 := eq_true c33
                by_cases c36 : (bt a0.f1 0) = 0
                · replace H := zpos c36 H
                  have c36a := beq_iff_eq.mpr c36
                  have c36b := bne_eq_false_iff_eq.mpr c36
                  clear c36
                  by_cases c37 : (a0.f1.size : Int) = 1
                  · replace H := zpos c37 H
                    have c37a := beq_iff_eq.mpr c37
                    have c37b := bne_eq_false_iff_eq.mpr c37
                    clear c37
                    obtain rfl := zsome H
                    go_wp2_with (first | ((with_reducible refine gate_dst (N := 59) rfl ?_); refine ev_call rfl Try.func73 (by kernel_rfl) rfl #[.int .i64 (a0.f1.size : Int), .int .i64 1, .int .i64 5] rfl (by simp only [List.map_toArray, List.map_cons, List.map_nil]; rfl) ?_; refine (impl_within.calls ht27.out).mono ?_; rintro _ wt27 ⟨rfl, HQ⟩; refine ⟨_, rfl, ?_⟩; replace HS := HS.call HQ; clear HQ; (try clear F); replace HS : Hp noFP w _ [.box g2 [.int .i64 a0.f0, .string a0.f1, .slice Ap0 a0.f2.length cp0] 141] := HS; have F := HS.boxes; simp only [boxFacts, wrt, clr0, clr1, List.cons_append, List.nil_append, List.append_nil, List.set_cons_zero, List.set_cons_succ, and_true] at F; (try simp only [c29]); have hx31 : ∀ h : 0 < a0.f1.size, ((a0.f1[0]'h).toNat : Int) = bt a0.f1 0 := bt_at a0.f1 0; have hz32 : 0 < a0.f1.size := (by have := of_eq_true c30; omega); have hx34 : ∀ h : 0 < a0.f1.size, ((a0.f1[0]'h).toNat : Int) = bt a0.f1 0 := bt_at a0.f1 0; have hz35 : 0 < a0.f1.size := (by have := of_eq_true c30; omega)))
                    go_ret
                    exact ⟨rfl, HS.pick [] (by decide) (by rfl)⟩
                  · replace H := zneg c37 H
                    have c37a := beq_eq_false_iff_ne.mpr c37
                    have c37b := bne_iff_ne.mpr c37
                    clear c37
                    by_cases c38 : 1 < (a0.f1.size : Int)
                    case neg => exact zno c38 H
                    replace H := zpos c38 H
                    replace c38 := eq_true c38
                    have c38n : (1 < a0.f1.size) = True := eq_true (by have := of_eq_true c38; omega)
                    obtain rfl := zsome H
                    go_wp2_with (first | ((with_reducible refine gate_dst (N := 59) rfl ?_); refine ev_call rfl Try.func73 (by kernel_rfl) rfl #[.int .i64 (a0.f1.size : Int), .int .i64 1, .int .i64 5] rfl (by simp only [List.map_toArray, List.map_cons, List.map_nil]; rfl) ?_; refine (impl_within.calls ht27.out).mono ?_; rintro _ wt27 ⟨rfl, HQ⟩; refine ⟨_, rfl, ?_⟩; replace HS := HS.call HQ; clear HQ; (try clear F); replace HS : Hp noFP w _ [.box g2 [.int .i64 a0.f0, .string a0.f1, .slice Ap0 a0.f2.length cp0] 141] := HS; have F := HS.boxes; simp only [boxFacts, wrt, clr0, clr1, List.cons_append, List.nil_append, List.append_nil, List.set_cons_zero, List.set_cons_succ, and_true] at F; (try simp only [c29]); have hx31 : ∀ h : 0 < a0.f1.size, ((a0.f1[0]'h).toNat : Int) = bt a0.f1 0 := bt_at a0.f1 0; have hz32 : 0 < a0.f1.size := (by have := of_eq_true c30; omega); have hx34 : ∀ h : 0 < a0.f1.size, ((a0.f1[0]'h).toNat : Int) = bt a0.f1 0 := bt_at a0.f1 0; have hz35 : 0 < a0.f1.size := (by have := of_eq_true c30; omega); have hx39 : ∀ h : 1 < a0.f1.size, ((a0.f1[1]'h).toNat : Int) = bt a0.f1 1 := bt_at a0.f1 1; have hz40 : 1 < a0.f1.size := (by have := of_eq_true c38; omega)))
                    go_ret
                    exact ⟨rfl, HS.pick [] (by decide) (by rfl)⟩
                · replace H := zneg c36 H
                  have c36a := beq_eq_false_iff_ne.mpr c36
                  have c36b := bne_iff_ne.mpr c36
                  clear c36
                  obtain rfl := zsome H
                  go_wp2_with (first | ((with_reducible refine gate_dst (N := 59) rfl ?_); refine ev_call rfl Try.func73 (by kernel_rfl) rfl #[.int .i64 (a0.f1.size : Int), .int .i64 1, .int .i64 5] rfl (by simp only [List.map_toArray, List.map_cons, List.map_nil]; rfl) ?_; refine (impl_within.calls ht27.out).mono ?_; rintro _ wt27 ⟨rfl, HQ⟩; refine ⟨_, rfl, ?_⟩; replace HS := HS.call HQ; clear HQ; (try clear F); replace HS : Hp noFP w _ [.box g2 [.int .i64 a0.f0, .string a0.f1, .slice Ap0 a0.f2.length cp0] 141] := HS; have F := HS.boxes; simp only [boxFacts, wrt, clr0, clr1, List.cons_append, List.nil_append, List.append_nil, List.set_cons_zero, List.set_cons_succ, and_true] at F; (try simp only [c29]); have hx31 : ∀ h : 0 < a0.f1.size, ((a0.f1[0]'h).toNat : Int) = bt a0.f1 0 := bt_at a0.f1 0; have hz32 : 0 < a0.f1.size := (by have := of_eq_true c30; omega); have hx34 : ∀ h : 0 < a0.f1.size, ((a0.f1[0]'h).toNat : Int) = bt a0.f1 0 := bt_at a0.f1 0; have hz35 : 0 < a0.f1.size := (by have := of_eq_true c30; omega)))
                  go_ret
                  exact ⟨rfl, HS.pick [] (by decide) (by rfl)⟩
              · replace H := zneg c33 H
                replace c33 := eq_false c33
                obtain rfl := zsome H
                go_wp2_with (first | ((with_reducible refine gate_dst (N := 59) rfl ?_); refine ev_call rfl Try.func73 (by kernel_rfl) rfl #[.int .i64 (a0.f1.size : Int), .int .i64 1, .int .i64 5] rfl (by simp only [List.map_toArray, List.map_cons, List.map_nil]; rfl) ?_; refine (impl_within.calls ht27.out).mono ?_; rintro _ wt27 ⟨rfl, HQ⟩; refine ⟨_, rfl, ?_⟩; replace HS := HS.call HQ; clear HQ; (try clear F); replace HS : Hp noFP w _ [.box g2 [.int .i64 a0.f0, .string a0.f1, .slice Ap0 a0.f2.length cp0] 141] := HS; have F := HS.boxes; simp only [boxFacts, wrt, clr0, clr1, List.cons_append, List.nil_append, List.append_nil, List.set_cons_zero, List.set_cons_succ, and_true] at F; (try simp only [c29]); have hx31 : ∀ h : 0 < a0.f1.size, ((a0.f1[0]'h).toNat : Int) = bt a0.f1 0 := bt_at a0.f1 0; have hz32 : 0 < a0.f1.size := (by have := of_eq_true c30; omega)))
                go_ret
                exact ⟨rfl, HS.pick [] (by decide) (by rfl)⟩
            · replace H := zneg c29 H
              replace c29 := eq_false_of_ne_true c29
              obtain rfl := zsome H
              go_wp2_with (first | ((with_reducible refine gate_dst (N := 59) rfl ?_); refine ev_call rfl Try.func73 (by kernel_rfl) rfl #[.int .i64 (a0.f1.size : Int), .int .i64 1, .int .i64 5] rfl (by simp only [List.map_toArray, List.map_cons, List.map_nil]; rfl) ?_; refine (impl_within.calls ht27.out).mono ?_; rintro _ wt27 ⟨rfl, HQ⟩; refine ⟨_, rfl, ?_⟩; replace HS := HS.call HQ; clear HQ; (try clear F); replace HS : Hp noFP w _ [.box g2 [.int .i64 a0.f0, .string a0.f1, .slice Ap0 a0.f2.length cp0] 141] := HS; have F := HS.boxes; simp only [boxFacts, wrt, clr0, clr1, List.cons_append, List.nil_append, List.append_nil, List.set_cons_zero, List.set_cons_succ, and_true] at F; (try simp only [c29])))
              go_ret
              exact ⟨rfl, HS.pick [] (by decide) (by rfl)⟩
          · replace H := zneg c26 H
            have c26a := beq_eq_false_iff_ne.mpr c26
            have c26b := bne_iff_ne.mpr c26
            clear c26
            by_cases c41 : a0.f0 = 4
            · replace H := zpos c41 H
              have c41a := beq_iff_eq.mpr c41
              have c41b := bne_eq_false_iff_eq.mpr c41
              clear c41
              obtain rfl := zsome H
              go_wp2
              go_ret
              exact ⟨rfl, HS.pick [] (by decide) (by rfl)⟩
            · replace H := zneg c41 H
              have c41a := beq_eq_false_iff_ne.mpr c41
              have c41b := bne_iff_ne.mpr c41
              clear c41
              by_cases c42 : a0.f0 = 12
              · replace H := zpos c42 H
                have c42a := beq_iff_eq.mpr c42
                have c42b := bne_eq_false_iff_eq.mpr c42
                clear c42
                obtain ⟨t43, ht43, H⟩ := zbind H
                obtain rfl := zsome H
                go_wp2_with (first | ((with_reducible refine gate_dst (N := 88) rfl ?_); refine ev_call rfl Try.func146 (by kernel_rfl) rfl #[.string a0.f1, .int .i64 32, .int .i64 126] rfl (by simp only [List.map_toArray, List.map_cons, List.map_nil]; rfl) ?_; refine (impl_bytesIn.calls ht43.out).mono ?_; rintro _ wt43 ⟨rfl, HQ⟩; refine ⟨_, rfl, ?_⟩; replace HS := HS.call HQ; clear HQ; (try clear F); replace HS : Hp noFP w _ [.box g2 [.int .i64 a0.f0, .string a0.f1, .slice Ap0 a0.f2.length cp0] 141] := HS; have F := HS.boxes; simp only [boxFacts, wrt, clr0, clr1, List.cons_append, List.nil_append, List.append_nil, List.set_cons_zero, List.set_cons_succ, and_true] at F))
                go_ret
                exact ⟨rfl, HS.pick [] (by decide) (by rfl)⟩
              · replace H := zneg c42 H
                have c42a := beq_eq_false_iff_ne.mpr c42
                have c42b := bne_iff_ne.mpr c42
                clear c42
                obtain rfl := zsome H
                go_wp2
                go_ret
                exact ⟨rfl, HS.pick [] (by decide) (by rfl)⟩
theorem impl_itemOk.calls {k : Nat} {a0 : S141} {a1 : Int} {Ap0 : Option Addr} {np0 cp0 : Nat} {r : Bool} {w : World} (h : impl_itemOk.f k a0 a1 = some r) (gp0 : k141.C w Ap0 np0 a0.f2) (lp0 : np0 ≤ cp0) :
    Calls Try.prog 143 #[.agg #[.int .i64 a0.f0, .string a0.f1, .slice Ap0 np0 cp0], .int .i64 a1] w (fun e w' => e = .returned (.bool r) ∧ Hp noFP w w' []) := impl_itemOk.calls_ k (Nat.le_refl k) h gp0 lp0
/-! ### impl_ItemOk: function 133 -/
def impl_ItemOk.f (k : Nat) (a0 : S141) : Option (Bool) := ((impl_itemOk.f k a0 0).bind fun t3 => (some t3))
set_option maxHeartbeats 16000000 in
theorem impl_ItemOk.calls {k : Nat} {a0 : S141} {Ap0 : Option Addr} {np0 cp0 : Nat} {r : Bool} {w : World} (h : impl_ItemOk.f k a0 = some r) (gp0 : k141.C w Ap0 np0 a0.f2) (lp0 : np0 ≤ cp0) :
    Calls Try.prog 133 #[.agg #[.int .i64 a0.f0, .string a0.f1, .slice Ap0 np0 cp0]] w (fun e w' => e = .returned (.bool r) ∧ Hp noFP w w' []) := by
 obtain rfl := C_len gp0
 have HS := Hp.start w
 have H := Aside0.mk h
 clear h
 unfold impl_ItemOk.f at H
 go_enter Try.func133, Try.ntmps133
 obtain ⟨t3, ht3, H⟩ := zbind H
 obtain rfl := zsome H
 go_wp2_with (first | ((with_reducible refine gate_dst (N := 1) rfl ?_); refine ev_box rfl HS (by first | (go_simp; done) | (go_simp; rfl)) rfl ?_; clear HS; (try clear F); intro g1 w1 HS; replace HS : Hp noFP w _ [.box g1 [.int .i64 a0.f0, .string a0.f1, .slice Ap0 a0.f2.length cp0] 141] := HS; have F := HS.boxes; simp only [boxFacts, wrt, clr0, clr1, List.cons_append, List.nil_append, List.append_nil, List.set_cons_zero, List.set_cons_succ, and_true] at F) | ((with_reducible refine gate_dst (N := 4) rfl ?_); refine ev_call rfl Try.func143 (by kernel_rfl) rfl #[.agg #[.int .i64 a0.f0, .string a0.f1, .slice Ap0 a0.f2.length cp0], .int .i64 0] rfl (by simp only [List.map_toArray, List.map_cons, List.map_nil]; rfl) ?_; refine (impl_itemOk.calls ht3.out (HS.ro gp0) lp0).mono ?_; rintro _ wt3 ⟨rfl, HQ⟩; refine ⟨_, rfl, ?_⟩; replace HS := HS.call HQ; clear HQ; (try clear F); replace HS : Hp noFP w _ [.box g1 [.int .i64 a0.f0, .string a0.f1, .slice Ap0 a0.f2.length cp0] 141] := HS; have F := HS.boxes; simp only [boxFacts, wrt, clr0, clr1, List.cons_append, List.nil_append, List.append_nil, List.set_cons_zero, List.set_cons_succ, and_true] at F))
 go_ret
 exact ⟨rfl, HS.pick [] (by decide) (by rfl)⟩
/-! ### impl_lengthText: function 144 -/
def impl_lengthText.l0 : Nat → (List Int) → Int → Option (ByteArray)
  | 0, _, _ => none
  | k + 1, l14, x16 => (if 0 < x16 then (if 1 + l14.length ≤ 140737488355328 then (lets (([(x16 % 256)] : List Int) ++ l14) fun y22 => (impl_lengthText.l0 k y22 (x16 / 256))) else none) else (if 1 + l14.length ≤ 140737488355328 then (lets (([((wrap64 (128 + (l14.length : Int))) % 256)] : List Int) ++ l14) fun y27 => (some (strOfNums y27))) else none))
def impl_lengthText.f (k : Nat) (a0 : Int) : Option (ByteArray) := (if a0 < 128 then (some (strOfNums ([(a0 % 256)] : List Int))) else (impl_lengthText.l0 k [] a0))
set_option maxHeartbeats 16000000 in
theorem impl_lengthText.calls {k : Nat} {a0 : Int} {r : ByteArray} {w : World} (h : impl_lengthText.f k a0 = some r) :
    Calls Try.prog 144 #[.int .i64 a0] w (fun e w' => e = .returned (.string r) ∧ Hp noFP w w' []) := by
 have HS := Hp.start w
 have H := Aside0.mk h
 clear h
 unfold impl_lengthText.f at H
 go_enter Try.func144, Try.ntmps144
 by_cases c1 : a0 < 128
 · replace H := zpos c1 H
   replace c1 := eq_true c1
   obtain rfl := zsome H
   go_wp2_with (first | ((with_reducible refine gate_dst (N := 9) rfl ?_); refine ev_lit rfl (Zd.int .u8) [] ([(a0 % 256)] : List Int) ([.int .u8 (a0 % 256)] ++ []) HS (by first | (go_simp; done) | (go_simp; rfl)) rfl rfl (Nat.le_of_ble_eq_true rfl) (MadeL.cons (js1 := []) (c := [.int .u8 (a0 % 256)]) rfl (made_flat (fun _ => rfl)) MadeL.nil (by decide)) ?_; clear HS; (try clear F); intro v2 w2 HS; obtain ⟨B2, d2, rfl, m2⟩ := HS.formn 1 0 rfl rfl; replace HS : Hp noFP w _ [.own (Zd.slice 5 (Zd.int .u8)) ([(a0 % 256)] : List Int) [.slice B2 1 d2]] := HS) | ((with_reducible refine gate_dst (N := 10) rfl ?_); refine ev_val rfl (run_str rfl rfl Try.underlying155 Try.underlying5 Try.underlying9 (HS.rd 0 rfl)) ?_))
   go_ret
   exact ⟨rfl, HS.pick [] (by decide) (by rfl)⟩
 · replace H := zneg c1 H
   replace c1 := eq_false c1
   go_wp2
   replace HS := HS.nil 5 (Zd.int .u8)
   go_loopg [3, 4] k (fun kq v_3 v_4 w' => ∃ (l14 : List Int) (v15 : Value) (x16 : Int), v_3 = v15 ∧ v_4 = .int .i64 x16 ∧ Aside0 (impl_lengthText.l0 kq l14 x16 = some r) ∧ Aside0 (kq ≤ k) ∧ Hp noFP w w' [.own (Zd.slice 5 (Zd.int .u8)) l14 [v15]])
   case atStart => exact ⟨_, _, _, rfl, rfl, H, ⟨Nat.le_refl _⟩, HS⟩
   case round =>
    clear HS H; (try clear F)
    obtain ⟨l14, v15, x16, rfl, rfl, H, HKk13, HS⟩ := hrel
    obtain ⟨B15, d15, rfl, m15⟩ := HS.form 0 rfl
    cases gk with
    | zero => exact absurd H.out (by simp [impl_lengthText.l0])
    | succ k13 =>
     simp only [impl_lengthText.l0] at H
     by_cases c18 : 0 < x16
     · replace H := zpos c18 H
       replace c18 := eq_true c18
       by_cases c21 : 1 + l14.length ≤ 140737488355328
       case neg => exact zno c21 H
       replace H := zpos c21 H
       replace c21 := eq_true c21
       obtain ⟨y22, e_y22, H⟩ := zlets H
       go_wp2_with (first | ((with_reducible refine gate_dst (N := 18) rfl ?_); refine ev_lit rfl (Zd.int .u8) [] ([(x16 % 256)] : List Int) ([.int .u8 (x16 % 256)] ++ []) HS (by first | (go_simp; done) | (go_simp; rfl)) rfl rfl (Nat.le_of_ble_eq_true rfl) (MadeL.cons (js1 := []) (c := [.int .u8 (x16 % 256)]) rfl (made_flat (fun _ => rfl)) MadeL.nil (by decide)) ?_; clear HS; (try clear F); intro v19 w19 HS; obtain ⟨B19, d19, rfl, m19⟩ := HS.formn 1 1 rfl rfl; replace HS : Hp noFP w _ [.own (Zd.slice 5 (Zd.int .u8)) l14 [.slice B15 l14.length d15], .own (Zd.slice 5 (Zd.int .u8)) ([(x16 % 256)] : List Int) [.slice B19 1 d19]] := HS) | ((with_reducible refine gate_dst (N := 20) rfl ?_); refine ev_appendr rfl (Zd.int .u8) (flat_int _) 1 HS rfl (HS.rd 0 rfl) rfl rfl rfl Try.underlying155 info5 rfl (by decide) (by decide) (by have := of_eq_true c21; first | omega | (simp only [List.length_cons, List.length_nil, List.length_append, Nat.zero_add] at this ⊢; omega)) ?_; clear HS; (try clear F); intro v22 w22 HS; rw [← e_y22.out] at HS; obtain ⟨B22, d22, rfl, m22⟩ := HS.form 2 rfl; replace HS : Hp noFP w _ [.own (Zd.slice 5 (Zd.int .u8)) l14 [.slice B15 l14.length d15], .emp, .own (Zd.slice 5 (Zd.int .u8)) y22 [.slice B22 y22.length d22]] := HS))
       go_roundg k13
       case measure => have := HKk13.out; omega
       case rel => exact ⟨_, _, _, rfl, rfl, H, ⟨by have := HKk13.out; omega⟩, HS.pick [2] (by decide) (by rfl)⟩
     · replace H := zneg c18 H
       replace c18 := eq_false c18
       by_cases c26 : 1 + l14.length ≤ 140737488355328
       case neg => exact zno c26 H
       replace H := zpos c26 H
       replace c26 := eq_true c26
       obtain ⟨y27, e_y27, H⟩ := zlets H
       obtain rfl := zsome H
       go_wp2_with (first | ((with_reducible refine gate_dst (N := 25) rfl ?_); refine ev_lit rfl (Zd.int .u8) [] ([((wrap64 (128 + (l14.length : Int))) % 256)] : List Int) ([.int .u8 ((wrap64 (128 + (l14.length : Int))) % 256)] ++ []) HS (by first | (go_simp; done) | (go_simp; rfl)) rfl rfl (Nat.le_of_ble_eq_true rfl) (MadeL.cons (js1 := []) (c := [.int .u8 ((wrap64 (128 + (l14.length : Int))) % 256)]) rfl (made_flat (fun _ => rfl)) MadeL.nil (by decide)) ?_; clear HS; (try clear F); intro v24 w24 HS; obtain ⟨B24, d24, rfl, m24⟩ := HS.formn 1 1 rfl rfl; replace HS : Hp noFP w _ [.own (Zd.slice 5 (Zd.int .u8)) l14 [.slice B15 l14.length d15], .own (Zd.slice 5 (Zd.int .u8)) ([((wrap64 (128 + (l14.length : Int))) % 256)] : List Int) [.slice B24 1 d24]] := HS) | ((with_reducible refine gate_dst (N := 27) rfl ?_); refine ev_appendr rfl (Zd.int .u8) (flat_int _) 1 HS rfl (HS.rd 0 rfl) rfl rfl rfl Try.underlying155 info5 rfl (by decide) (by decide) (by have := of_eq_true c26; first | omega | (simp only [List.length_cons, List.length_nil, List.length_append, Nat.zero_add] at this ⊢; omega)) ?_; clear HS; (try clear F); intro v27 w27 HS; rw [← e_y27.out] at HS; obtain ⟨B27, d27, rfl, m27⟩ := HS.form 2 rfl; replace HS : Hp noFP w _ [.own (Zd.slice 5 (Zd.int .u8)) l14 [.slice B15 l14.length d15], .emp, .own (Zd.slice 5 (Zd.int .u8)) y27 [.slice B27 y27.length d27]] := HS) | ((with_reducible refine gate_dst (N := 28) rfl ?_); refine ev_val rfl (run_str rfl rfl Try.underlying155 Try.underlying5 Try.underlying9 (HS.rd 2 rfl)) ?_))
       go_ret
       exact ⟨rfl, HS.pick [] (by decide) (by rfl)⟩
end Go.Proofs.Ytfeebnbookfpmaa.F
