/- Functions of the program and of the law, and that their calls do what is written here. -/
import Derived.Test.YtfeebnbookfpmaaZgFnExactCrlBodyd
namespace Go.Proofs.Ytfeebnbookfpmaa.F
open Go.RowKit Go.Proofs.YtfeebnbookfpmaaW.PrintWords Go.Proofs.YtfeebnbookfpmaaW.PrintLast Go.Proofs.YtfeebnbookfpmaaW.PrintMore Go.Proofs.Ytfeebnbookfpmaa.Z
attribute [local go_sem] max2_int min2_int max_two min_two max_three min_three max_four min_four
set_option linter.unusedVariables false
set_option linter.unusedSimpArgs false
set_option maxRecDepth 100000
/-! ### impl_crlItem_1: function 135 -/
def impl_crlItem_1.f (k : Nat) (a0 : S119) : Option (S141) := ((impl_IntItem.f k a0.f0).bind fun t102001 => ((impl_IntItem.f k a0.f1).bind fun t105001 => ((impl_ListItem.f k ([t102001, t105001] : List S141)).bind fun t107001 => (some (⟨t107001.f0, t107001.f1, t107001.f2⟩ : S141)))))
def impl_crlItem_1.T1 : Bool × List (List Nat × List Nat) := (true, [([], []), ([0], [0]), ([1], [1]), ([], []), ([3], [3]), ([4, 2], [4]), ([2, 5], [2, 5]), ([6, 5], [6]), ([7, 7, 0, 1, 2, 3, 4, 5, 6, 7], [7])])
theorem impl_crlItem_1.tT1 : rtab .any (opsOf Try.f135 1) = impl_crlItem_1.T1 := by kernel_rfl
set_option maxHeartbeats 16000000 in
theorem impl_crlItem_1.calls {k : Nat} {a0 : S119} {r : S141} {w : World} (h : impl_crlItem_1.f k a0 = some r) :
    Calls Try.prog 135 #[.agg #[.int .i64 a0.f0, .int .i64 a0.f1]] w (fun e w' => ∃ v0_ : Value, e = .returned (.agg #[.int .i64 r.f0, .string r.f1, v0_]) ∧ Hp noFP w w' [.own (Zd.slice 141 q141) r.f2 [v0_]]) := by
 have HS := Hp.start w
 have H := Aside0.mk h
 clear h
 unfold impl_crlItem_1.f at H
 go_enter Try.func135, Try.ntmps135
 go_wp2_with (first | ((with_reducible refine gate_dst (N := 1) rfl ?_); refine ev_box rfl HS (by first | (go_simp; done) | (go_simp; rfl)) rfl ?_; clear HS; (try clear F); intro g1 w1 HS; replace HS : Hp noFP w _ [.box g1 [.int .i64 a0.f0, .int .i64 a0.f1] 119] := HS; have F := HS.boxes; simp only [boxFacts, wrt, clr0, clr1, List.cons_append, List.nil_append, List.append_nil, List.set_cons_zero, List.set_cons_succ, and_true] at F) | ((with_reducible refine gate_dst (N := 2) rfl ?_); refine ev_box rfl HS (by first | (go_simp; done) | (go_simp; rfl)) rfl ?_; clear HS; (try clear F); intro g2 w2 HS; replace HS : Hp noFP w _ [.box g1 [.int .i64 a0.f0, .int .i64 a0.f1] 119, .box g2 [.int .i64 0, .string (⟨#[]⟩ : ByteArray), .slice none 0 0] 141] := HS; have F := HS.boxes; simp only [boxFacts, wrt, clr0, clr1, List.cons_append, List.nil_append, List.append_nil, List.set_cons_zero, List.set_cons_succ, and_true] at F))
 obtain ⟨t102001, ht102001, H⟩ := zbind H
 obtain ⟨t105001, ht105001, H⟩ := zbind H
 obtain ⟨t107001, ht107001, H⟩ := zbind H
 refine dr_start [8] HS #[false, false, false, false, false, false, false, false, false] (by kernel_rfl) rfl rfl impl_crlItem_1.tT1 (fun w6 HT HS HH => ?_)
 (try clear F)
 refine dr_pure 0 (some 3) HT (v := ?_) (a' := ?_) rfl rfl (by kernel_rfl) (fun _ _ _ h => h) (.inl ⟨by rfl, ?_⟩) ?_ ?_
 rotate_left
 · intro w'; go_simp; with_reducible rfl
 rotate_left
 · simp only [Act.put, List.setIfInBounds_toArray, List.set_cons_zero, List.set_cons_succ, i64_w, i32_w]; rfl
 refine dr_take 1 (some 4) HT HH (v := ?_) (a' := ?_) rfl rfl (by kernel_rfl) (fun _ _ _ h => h) (.inl ⟨by rfl, ?_⟩) ?_ ?_
 rotate_left
 · rintro w' ⟨rs', HS'⟩; have F := HS'.boxes; simp only [boxFacts, wrt, clr0, clr1, List.cons_append, List.nil_append, List.append_nil, List.set_cons_zero, List.set_cons_succ, and_true] at F; go_simp; with_reducible rfl
 rotate_left
 · simp only [Act.put, List.setIfInBounds_toArray, List.set_cons_zero, List.set_cons_succ, i64_w, i32_w]; rfl
 refine dr_pure 3 (some 6) HT (v := ?_) (a' := ?_) rfl rfl (by kernel_rfl) (fun _ _ _ h => h) (.inl ⟨by rfl, ?_⟩) ?_ ?_
 rotate_left
 · intro w'; go_simp; with_reducible rfl
 rotate_left
 · simp only [Act.put, List.setIfInBounds_toArray, List.set_cons_zero, List.set_cons_succ, i64_w, i32_w]; rfl
 refine dr_take 4 (some 7) HT HH (v := ?_) (a' := ?_) rfl rfl (by kernel_rfl) (fun _ _ _ h => h) (.inl ⟨by rfl, ?_⟩) ?_ ?_
 rotate_left
 · rintro w' ⟨rs', HS'⟩; have F := HS'.boxes; simp only [boxFacts, wrt, clr0, clr1, List.cons_append, List.nil_append, List.append_nil, List.set_cons_zero, List.set_cons_succ, and_true] at F; go_simp; with_reducible rfl
 rotate_left
 · simp only [Act.put, List.setIfInBounds_toArray, List.set_cons_zero, List.set_cons_succ, i64_w, i32_w]; rfl
 refine dr_one 2 HT rfl (by kernel_rfl) (by decide) (fun K hK => ?_)
 refine goes_ Try.func120 (by kernel_rfl) rfl #[.int .i64 a0.f0] (by rfl) rfl rfl (by simp only [List.map_toArray, List.map_cons, List.map_nil]; rfl) ?_; refine (impl_IntItem.calls ht102001.out).mono ?_; rintro _ wt102001 ⟨v102002, rfl, HQ⟩; refine ⟨_, rfl, ?_⟩; replace HS := HS.call HQ; clear HQ; (try clear F); obtain ⟨B102002, d102002, rfl, m102002⟩ := HS.form 2 rfl
 replace HS : Hp noFP w _ [.box g1 [.int .i64 a0.f0, .int .i64 a0.f1] 119, .box g2 [.int .i64 0, .string (⟨#[]⟩ : ByteArray), .slice none 0 0] 141, .own (Zd.slice 141 q141) t102001.f2 [.slice B102002 t102001.f2.length d102002]] := HS
 have F := HS.boxes; simp only [boxFacts, wrt, clr0, clr1, List.cons_append, List.nil_append, List.append_nil, List.set_cons_zero, List.set_cons_succ, and_true] at F
 refine hK.out _ _ ⟨_, HS⟩ (fun HH => ?_)
 clear hK K
 refine norm_ (a' := ?_) ?_ ?_
 rotate_left
 · show Act.put _ (some 5) _ = _; simp only [Act.put, List.setIfInBounds_toArray, List.set_cons_zero, List.set_cons_succ, i64_w, i32_w]; rfl
 refine dr_one 5 HT rfl (by kernel_rfl) (by decide) (fun K hK => ?_)
 refine goes_ Try.func120 (by kernel_rfl) rfl #[.int .i64 a0.f1] (by rfl) rfl rfl (by simp only [List.map_toArray, List.map_cons, List.map_nil]; rfl) ?_; refine (impl_IntItem.calls ht105001.out).mono ?_; rintro _ wt105001 ⟨v105002, rfl, HQ⟩; refine ⟨_, rfl, ?_⟩; replace HS := HS.call HQ; clear HQ; (try clear F); obtain ⟨B105002, d105002, rfl, m105002⟩ := HS.form 3 rfl
 replace HS : Hp noFP w _ [.box g1 [.int .i64 a0.f0, .int .i64 a0.f1] 119, .box g2 [.int .i64 0, .string (⟨#[]⟩ : ByteArray), .slice none 0 0] 141, .own (Zd.slice 141 q141) t102001.f2 [.slice B102002 t102001.f2.length d102002], .own (Zd.slice 141 q141) t105001.f2 [.slice B105002 t105001.f2.length d105002]] := HS
 have F := HS.boxes; simp only [boxFacts, wrt, clr0, clr1, List.cons_append, List.nil_append, List.append_nil, List.set_cons_zero, List.set_cons_succ, and_true] at F
 refine hK.out _ _ ⟨_, HS⟩ (fun HH => ?_)
 clear hK K
 refine norm_ (a' := ?_) ?_ ?_
 rotate_left
 · show Act.put _ (some 8) _ = _; simp only [Act.put, List.setIfInBounds_toArray, List.set_cons_zero, List.set_cons_succ, i64_w, i32_w]; rfl
 refine dr_one 6 HT rfl (by kernel_rfl) (by decide) (fun K hK => ?_)
 refine if_wp (by rfl) ?_; refine wp_lit q141 [2, 3] ([t102001, t105001] : List S141) ([.int .i64 t102001.f0, .string t102001.f1, .slice B102002 t102001.f2.length d102002] ++ ([.int .i64 t105001.f0, .string t105001.f1, .slice B105002 t105001.f2.length d105002] ++ [])) HS (by first | (go_simp; done) | (go_simp; rfl)) rfl rfl (Nat.le_of_ble_eq_true rfl) (MadeL.cons (js1 := [2]) (c := [.int .i64 t102001.f0, .string t102001.f1, .slice B102002 t102001.f2.length d102002]) rfl (fun S hd hh => q141_pack (x := t102001) hd (hh 2 (.own (Zd.slice 141 q141) t102001.f2 [.slice B102002 t102001.f2.length d102002]) rfl) (by decide)) (MadeL.cons (js1 := [3]) (c := [.int .i64 t105001.f0, .string t105001.f1, .slice B105002 t105001.f2.length d105002]) rfl (fun S hd hh => q141_pack (x := t105001) hd (hh 3 (.own (Zd.slice 141 q141) t105001.f2 [.slice B105002 t105001.f2.length d105002]) rfl) (by decide)) MadeL.nil (by decide)) (by decide)) ?_; clear HS; (try clear F); intro v106001 w106001 HS; obtain ⟨B106001, d106001, rfl, m106001⟩ := HS.formn 2 4 rfl rfl
 replace HS : Hp noFP w _ [.box g1 [.int .i64 a0.f0, .int .i64 a0.f1] 119, .box g2 [.int .i64 0, .string (⟨#[]⟩ : ByteArray), .slice none 0 0] 141, .emp, .emp, .own (Zd.slice 141 q141) ([t102001, t105001] : List S141) [.slice B106001 2 d106001]] := HS
 have F := HS.boxes; simp only [boxFacts, wrt, clr0, clr1, List.cons_append, List.nil_append, List.append_nil, List.set_cons_zero, List.set_cons_succ, and_true] at F
 refine hK.out _ _ ⟨_, HS⟩ (fun HH => ?_)
 clear hK K
 refine norm_ (a' := ?_) ?_ ?_
 rotate_left
 · show Act.put _ (some 9) _ = _; simp only [Act.put, List.setIfInBounds_toArray, List.set_cons_zero, List.set_cons_succ, i64_w, i32_w]; rfl
 refine dr_one 7 HT rfl (by kernel_rfl) (by decide) (fun K hK => ?_)
 refine goes_ Try.func117 (by kernel_rfl) rfl #[.slice B106001 2 d106001] (by rfl) rfl rfl (by simp only [List.map_toArray, List.map_cons, List.map_nil]; rfl) ?_; refine (impl_ListItem.calls ht107001.out (HS.rd 4 rfl) m106001).mono ?_; rintro _ wt107001 ⟨v107002, rfl, HQ⟩; refine ⟨_, rfl, ?_⟩; replace HS := HS.call HQ; clear HQ; (try clear F); obtain ⟨B107002, d107002, rfl, m107002⟩ := HS.form 5 rfl
 replace HS : Hp noFP w _ [.box g1 [.int .i64 a0.f0, .int .i64 a0.f1] 119, .box g2 [.int .i64 0, .string (⟨#[]⟩ : ByteArray), .slice none 0 0] 141, .emp, .emp, .own (Zd.slice 141 q141) ([t102001, t105001] : List S141) [.slice B106001 2 d106001], .own (Zd.slice 141 q141) t107001.f2 [.slice B107002 t107001.f2.length d107002]] := HS
 have F := HS.boxes; simp only [boxFacts, wrt, clr0, clr1, List.cons_append, List.nil_append, List.append_nil, List.set_cons_zero, List.set_cons_succ, and_true] at F
 refine hK.out _ _ ⟨_, HS⟩ (fun HH => ?_)
 clear hK K
 refine norm_ (a' := ?_) ?_ ?_
 rotate_left
 · show Act.put _ (some 10) _ = _; simp only [Act.put, List.setIfInBounds_toArray, List.set_cons_zero, List.set_cons_succ, i64_w, i32_w]; rfl
 refine dr_last 8 HT rfl (by kernel_rfl) (by decide) (fun K hK => ?_)
 refine if_wp (by rfl) ?_; refine wp_store 1 0 HS (seg := [.int .i64 t107001.f0, .string t107001.f1, .slice B107002 t107001.f2.length d107002]) rfl rfl rfl rfl rfl rfl (by kernel_rfl) (by simp [wrt]) (by simp [Value.oneCell']) ?_; clear HS; (try clear F); intro w108001 HS
 replace HS : Hp noFP w _ [.box g1 [.int .i64 a0.f0, .int .i64 a0.f1] 119, .box g2 [.int .i64 t107001.f0, .string t107001.f1, .slice B107002 t107001.f2.length d107002] 141, .emp, .emp, .own (Zd.slice 141 q141) ([t102001, t105001] : List S141) [.slice B106001 2 d106001], .own (Zd.slice 141 q141) t107001.f2 [.slice B107002 t107001.f2.length d107002]] := HS
 have F := HS.boxes; simp only [boxFacts, wrt, clr0, clr1, List.cons_append, List.nil_append, List.append_nil, List.set_cons_zero, List.set_cons_succ, and_true] at F
 refine hK.out _ _ ?_
 clear hK K
 refine done_ (done_of HT.out (by kernel_rfl)) ?_
 obtain rfl := zsome H
 go_wp2
 exact bodyPost_ret (results_single rfl (.cell _ _ _ _ _ rfl (HS.boxAt (i := 1) rfl) Try.underlying141 rfl (by kernel_rfl) .nil)) rfl ⟨_, rfl, HS.pick [5] (by decide) (by rfl)⟩
/-! ### impl_Rev_0: function 137 -/
def impl_Rev_0.l0 : Nat → (List S141) → Int → (List S119) → Option (S141)
  | 0, _, _, _ => none
  | k + 1, l26, x28, a0 => (if x28 < (a0.length : Int) then (if 0 ≤ x28 then (if x28 < (a0.length : Int) then ((impl_crlItem_1.f k (rd_T119 a0 x28)).bind fun t204001 => (if l26.length + 1 ≤ 2932031007402 then (lets (l26 ++ ([t204001] : List S141)) fun y206002 => (impl_Rev_0.l0 k y206002 (wrap64 (x28 + 1)) a0)) else none)) else none) else none) else (some (⟨48, (⟨#[]⟩ : ByteArray), l26⟩ : S141)))
def impl_Rev_0.f (k : Nat) (a0 : (List S119)) : Option (S141) := (impl_Rev_0.l0 k [] 0 a0)
def impl_Rev_0.T5 : Bool × List (List Nat × List Nat) := (true, [([], []), ([0], [0]), ([], []), ([], []), ([2, 3], [2, 3]), ([4], [4]), ([1, 5, 4], [1, 5]), ([0, 1, 2, 3, 4, 5, 6], []), ([7, 6, 6, 0, 1, 2, 3, 4, 5, 6], [6, 7])])
theorem impl_Rev_0.tT5 : rtab .any (opsOf Try.f137 5) = impl_Rev_0.T5 := by kernel_rfl
set_option maxHeartbeats 16000000 in
theorem impl_Rev_0.calls {k : Nat} {a0 : (List S119)} {Ap0 : Option Addr} {np0 cp0 : Nat} {r : S141} {w : World} (h : impl_Rev_0.f k a0 = some r) (gp0 : k119.C w Ap0 np0 a0) (lp0 : np0 ≤ cp0) :
    Calls Try.prog 137 #[.slice Ap0 np0 cp0, .func (.func 135) #[] #[]] w (fun e w' => ∃ v0_ : Value, e = .returned (.agg #[.int .i64 r.f0, .string r.f1, v0_]) ∧ Hp noFP w w' [.own (Zd.slice 141 q141) r.f2 [v0_]]) := by
 obtain rfl := C_len gp0
 have HS := Hp.start w
 have H := Aside0.mk h
 clear h
 unfold impl_Rev_0.f at H
 go_enter Try.func137, Try.ntmps137
 go_wp2_with (first | ((with_reducible refine gate_dst (N := 4) rfl ?_); refine ev_box rfl HS (by first | (go_simp; done) | (go_simp; rfl)) rfl ?_; clear HS; (try clear F); intro g4 w4 HS; replace HS : Hp noFP w _ [.box g4 [.int .i64 0, .string (⟨#[]⟩ : ByteArray), .slice none 0 0] 141] := HS; have F := HS.boxes; simp only [boxFacts, wrt, clr0, clr1, List.cons_append, List.nil_append, List.append_nil, List.set_cons_zero, List.set_cons_succ, and_true] at F) | ((with_reducible refine gate_dst (N := 5) rfl ?_); refine ev_box rfl HS (by first | (go_simp; done) | (go_simp; rfl)) rfl ?_; clear HS; (try clear F); intro g5 w5 HS; replace HS : Hp noFP w _ [.box g4 [.int .i64 0, .string (⟨#[]⟩ : ByteArray), .slice none 0 0] 141, .box g5 [.int .i64 0, .string (⟨#[]⟩ : ByteArray), .slice none 0 0] 141] := HS; have F := HS.boxes; simp only [boxFacts, wrt, clr0, clr1, List.cons_append, List.nil_append, List.append_nil, List.set_cons_zero, List.set_cons_succ, and_true] at F) | ((with_reducible refine gate_store (p := 5) rfl ?_); refine ev_store rfl 1 0 HS (seg := [.int .i64 48, .string (⟨#[]⟩ : ByteArray), .slice none 0 0]) rfl rfl rfl rfl rfl rfl (by kernel_rfl) (by simp [wrt]) (by simp [Value.oneCell']) ?_; clear HS; (try clear F); intro w5 HS; replace HS : Hp noFP w _ [.box g4 [.int .i64 0, .string (⟨#[]⟩ : ByteArray), .slice none 0 0] 141, .box g5 [.int .i64 48, .string (⟨#[]⟩ : ByteArray), .slice none 0 0] 141] := HS; have F := HS.boxes; simp only [boxFacts, wrt, clr0, clr1, List.cons_append, List.nil_append, List.append_nil, List.set_cons_zero, List.set_cons_succ, and_true] at F))
 replace HS := HS.nil 141 q141
 go_loopg [11] k (fun kq v_11 w' => ∃ (l26 : List S141) (v27 : Value) (x28 : Int), v_11 = .int .i64 x28 ∧ Aside0 (impl_Rev_0.l0 kq l26 x28 a0 = some r) ∧ Aside0 (kq ≤ k) ∧ Hp noFP w w' [.box g4 [.int .i64 0, .string (⟨#[]⟩ : ByteArray), .slice none 0 0] 141, .box g5 [.int .i64 48, .string (⟨#[]⟩ : ByteArray), v27] 141, .own (Zd.slice 141 q141) l26 [v27]])
 case atStart => exact ⟨_, _, _, rfl, H, ⟨Nat.le_refl _⟩, HS⟩
 case round =>
  clear HS H; (try clear F)
  obtain ⟨l26, v27, x28, rfl, H, HKk25, HS⟩ := hrel
  obtain ⟨B27, d27, rfl, m27⟩ := HS.form 2 rfl
  have F := HS.boxes; simp only [boxFacts, wrt, clr0, clr1, List.cons_append, List.nil_append, List.append_nil, List.set_cons_zero, List.set_cons_succ, and_true] at F
  cases gk with
  | zero => exact absurd H.out (by simp [impl_Rev_0.l0])
  | succ k25 =>
   simp only [impl_Rev_0.l0] at H
   by_cases c30 : x28 < (a0.length : Int)
   · replace H := zpos c30 H
     replace c30 := eq_true c30
     by_cases c31 : 0 ≤ x28
     case neg => exact zno c31 H
     replace H := zpos c31 H
     replace c31 := eq_true c31
     by_cases c32 : x28 < (a0.length : Int)
     case neg => exact zno c32 H
     replace H := zpos c32 H
     replace c32 := eq_true c32
     obtain ⟨ad33, rfl, e33_0, e33_1⟩ := at_T119 gp0 x28 (of_eq_true c31) (of_eq_true c32)
     replace e33_0 := HS.keepc e33_0
     replace e33_1 := HS.keepc e33_1
     go_wp2_with (first | ((with_reducible refine gate_dst (N := 7) rfl ?_); refine ev_box rfl HS (by first | (go_simp; done) | (go_simp; rfl)) rfl ?_; clear HS; (try clear F); intro g7 w7 HS; replace HS : Hp noFP w _ [.box g4 [.int .i64 0, .string (⟨#[]⟩ : ByteArray), .slice none 0 0] 141, .box g5 [.int .i64 48, .string (⟨#[]⟩ : ByteArray), .slice B27 l26.length d27] 141, .own (Zd.slice 141 q141) l26 [.slice B27 l26.length d27], .box g7 [.int .i64 0, .int .i64 0] 119] := HS; have F := HS.boxes; simp only [boxFacts, wrt, clr0, clr1, List.cons_append, List.nil_append, List.append_nil, List.set_cons_zero, List.set_cons_succ, and_true] at F) | ((with_reducible refine gate_store (p := 7) rfl ?_); refine ev_store rfl 3 0 HS (seg := [.int .i64 ((rd_T119 a0 x28).f0), .int .i64 ((rd_T119 a0 x28).f1)]) rfl rfl rfl rfl rfl rfl (by kernel_rfl) (by simp [wrt]) (by simp [Value.oneCell']) ?_; clear HS; (try clear F); intro w36 HS; replace HS : Hp noFP w _ [.box g4 [.int .i64 0, .string (⟨#[]⟩ : ByteArray), .slice none 0 0] 141, .box g5 [.int .i64 48, .string (⟨#[]⟩ : ByteArray), .slice B27 l26.length d27] 141, .own (Zd.slice 141 q141) l26 [.slice B27 l26.length d27], .box g7 [.int .i64 ((rd_T119 a0 x28).f0), .int .i64 ((rd_T119 a0 x28).f1)] 119] := HS; have F := HS.boxes; simp only [boxFacts, wrt, clr0, clr1, List.cons_append, List.nil_append, List.append_nil, List.set_cons_zero, List.set_cons_succ, and_true] at F))
     obtain ⟨t204001, ht204001, H⟩ := zbind H
     by_cases c206001 : l26.length + 1 ≤ 2932031007402
     case neg => exact zno c206001 H
     replace H := zpos c206001 H
     replace c206001 := eq_true c206001
     obtain ⟨y206002, e_y206002, H⟩ := zlets H
     refine dr_start2 [.box g4 [.int .i64 0, .string (⟨#[]⟩ : ByteArray), .slice none 0 0] 141, .box g5 [.int .i64 48, .string (⟨#[]⟩ : ByteArray), .slice B27 l26.length d27] 141, .emp, .box g7 [.int .i64 ((rd_T119 a0 x28).f0), .int .i64 ((rd_T119 a0 x28).f1)] 119] [8] HS (HS.arr [some 0, some 1, none, some 3] (by decide)) #[false, false, false, false, false, false, false, false, false] (by kernel_rfl) rfl rfl impl_Rev_0.tT5 (fun w39 HT HS HH => ?_)
     (try clear F)
     refine dr_pure 0 (some 15) HT (v := ?_) (a' := ?_) rfl rfl (by kernel_rfl) (fun _ _ _ h => h) (.inl ⟨by rfl, ?_⟩) ?_ ?_
     rotate_left
     · intro w'; go_simp; with_reducible rfl
     rotate_left
     · simp only [Act.put, List.setIfInBounds_toArray, List.set_cons_zero, List.set_cons_succ, i64_w, i32_w]; rfl
     refine dr_take 1 (some 16) HT HH (v := ?_) (a' := ?_) rfl rfl (by kernel_rfl) (fun _ _ _ h => h) (.inl ⟨by rfl, ?_⟩) ?_ ?_
     rotate_left
     · rintro w' ⟨rs', HS'⟩; have F := HS'.boxes; simp only [boxFacts, wrt, clr0, clr1, List.cons_append, List.nil_append, List.append_nil, List.set_cons_zero, List.set_cons_succ, and_true] at F; go_simp; with_reducible rfl
     rotate_left
     · simp only [Act.put, List.setIfInBounds_toArray, List.set_cons_zero, List.set_cons_succ, i64_w, i32_w]; rfl
     refine dr_pure 2 (some 17) HT (v := ?_) (a' := ?_) rfl rfl (by kernel_rfl) (fun _ _ _ h => h) (.inl ⟨by rfl, ?_⟩) ?_ ?_
     rotate_left
     · intro w'; go_simp; with_reducible rfl
     rotate_left
     · simp only [Act.put, List.setIfInBounds_toArray, List.set_cons_zero, List.set_cons_succ, i64_w, i32_w]; rfl
     refine dr_take 3 (some 18) HT HH (v := ?_) (a' := ?_) rfl rfl (by kernel_rfl) (fun _ _ _ h => h) (.inl ⟨by rfl, ?_⟩) ?_ ?_
     rotate_left
     · rintro w' ⟨rs', HS'⟩; have F := HS'.boxes; simp only [boxFacts, wrt, clr0, clr1, List.cons_append, List.nil_append, List.append_nil, List.set_cons_zero, List.set_cons_succ, and_true] at F; go_simp; with_reducible rfl
     rotate_left
     · simp only [Act.put, List.setIfInBounds_toArray, List.set_cons_zero, List.set_cons_succ, i64_w, i32_w]; rfl
     refine dr_one 4 HT rfl (by kernel_rfl) (by decide) (fun K hK => ?_)
     refine if_wp (by rfl) ?_; refine wp_callv Try.func135 (by kernel_rfl) rfl #[.agg #[.int .i64 ((rd_T119 a0 x28).f0), .int .i64 ((rd_T119 a0 x28).f1)]] #[.agg #[.int .i64 ((rd_T119 a0 x28).f0), .int .i64 ((rd_T119 a0 x28).f1)]] rfl rfl (by simp only [List.map_toArray, List.map_cons, List.map_nil]; rfl) (by first | rfl | simp) ?_; refine (impl_crlItem_1.calls ht204001.out).mono ?_; rintro _ wt204001 ⟨v204002, rfl, HQ⟩; refine ⟨_, rfl, ?_⟩; replace HS := HS.call HQ; clear HQ; (try clear F); obtain ⟨B204002, d204002, rfl, m204002⟩ := HS.form 4 rfl
     replace HS : Hp noFP w _ [.box g4 [.int .i64 0, .string (⟨#[]⟩ : ByteArray), .slice none 0 0] 141, .box g5 [.int .i64 48, .string (⟨#[]⟩ : ByteArray), .slice B27 l26.length d27] 141, .own (Zd.slice 141 q141) l26 [.slice B27 l26.length d27], .box g7 [.int .i64 ((rd_T119 a0 x28).f0), .int .i64 ((rd_T119 a0 x28).f1)] 119, .own (Zd.slice 141 q141) t204001.f2 [.slice B204002 t204001.f2.length d204002]] := HS
     have F := HS.boxes; simp only [boxFacts, wrt, clr0, clr1, List.cons_append, List.nil_append, List.append_nil, List.set_cons_zero, List.set_cons_succ, and_true] at F
     refine hK.out _ _ ⟨[], HS.arr [some 0, some 1, none, some 3] (by decide)⟩ (fun HH => ?_)
     clear hK K
     refine norm_ (a' := ?_) ?_ ?_
     rotate_left
     · show Act.put _ (some 19) _ = _; simp only [Act.put, List.setIfInBounds_toArray, List.set_cons_zero, List.set_cons_succ, i64_w, i32_w]; rfl
     refine dr_one 5 HT rfl (by kernel_rfl) (by decide) (fun K hK => ?_)
     refine if_wp (by rfl) ?_; refine wp_lit q141 [4] ([t204001] : List S141) ([.int .i64 t204001.f0, .string t204001.f1, .slice B204002 t204001.f2.length d204002] ++ []) HS (by first | (go_simp; done) | (go_simp; rfl)) rfl rfl (Nat.le_of_ble_eq_true rfl) (MadeL.cons (js1 := [4]) (c := [.int .i64 t204001.f0, .string t204001.f1, .slice B204002 t204001.f2.length d204002]) rfl (fun S hd hh => q141_pack (x := t204001) hd (hh 4 (.own (Zd.slice 141 q141) t204001.f2 [.slice B204002 t204001.f2.length d204002]) rfl) (by decide)) MadeL.nil (by decide)) ?_; clear HS; (try clear F); intro v205001 w205001 HS; obtain ⟨B205001, d205001, rfl, m205001⟩ := HS.formn 1 5 rfl rfl
     replace HS : Hp noFP w _ [.box g4 [.int .i64 0, .string (⟨#[]⟩ : ByteArray), .slice none 0 0] 141, .box g5 [.int .i64 48, .string (⟨#[]⟩ : ByteArray), .slice B27 l26.length d27] 141, .own (Zd.slice 141 q141) l26 [.slice B27 l26.length d27], .box g7 [.int .i64 ((rd_T119 a0 x28).f0), .int .i64 ((rd_T119 a0 x28).f1)] 119, .emp, .own (Zd.slice 141 q141) ([t204001] : List S141) [.slice B205001 1 d205001]] := HS
     have F := HS.boxes; simp only [boxFacts, wrt, clr0, clr1, List.cons_append, List.nil_append, List.append_nil, List.set_cons_zero, List.set_cons_succ, and_true] at F
     refine hK.out _ _ ⟨[], HS.arr [some 0, some 1, none, some 3] (by decide)⟩ (fun HH => ?_)
     clear hK K
     refine norm_ (a' := ?_) ?_ ?_
     rotate_left
     · show Act.put _ (some 20) _ = _; simp only [Act.put, List.setIfInBounds_toArray, List.set_cons_zero, List.set_cons_succ, i64_w, i32_w]; rfl
     refine dr_one 6 HT rfl (by kernel_rfl) (by decide) (fun K hK => ?_)
     refine if_wp (by rfl) ?_; refine wp_append q141 2 5 HS rfl rfl (by decide) rfl rfl rfl Try.underlying139 info141 rfl (by decide) (by decide) (by have := of_eq_true c206001; first | omega | (simp only [List.length_cons, List.length_nil, List.length_append, Nat.zero_add] at this ⊢; omega)) ?_; clear HS; (try clear F); intro v206002 w206002 HS; rw [← e_y206002.out] at HS; obtain ⟨B206002, d206002, rfl, m206002⟩ := HS.form 6 rfl
     replace HS : Hp noFP w _ [.box g4 [.int .i64 0, .string (⟨#[]⟩ : ByteArray), .slice none 0 0] 141, .box g5 [.int .i64 48, .string (⟨#[]⟩ : ByteArray), .slice B27 l26.length d27] 141, .emp, .box g7 [.int .i64 ((rd_T119 a0 x28).f0), .int .i64 ((rd_T119 a0 x28).f1)] 119, .emp, .emp, .own (Zd.slice 141 q141) y206002 [.slice B206002 y206002.length d206002]] := HS
     have F := HS.boxes; simp only [boxFacts, wrt, clr0, clr1, List.cons_append, List.nil_append, List.append_nil, List.set_cons_zero, List.set_cons_succ, and_true] at F
     refine hK.out _ _ ⟨[], HS.arr [some 0, some 1, none, some 3] (by decide)⟩ (fun HH => ?_)
     clear hK K
     refine norm_ (a' := ?_) ?_ ?_
     rotate_left
     · show Act.put _ (some 21) _ = _; simp only [Act.put, List.setIfInBounds_toArray, List.set_cons_zero, List.set_cons_succ, i64_w, i32_w]; rfl
     refine dr_pure 7 (some 22) HT (v := ?_) (a' := ?_) rfl rfl (by kernel_rfl) (fun _ _ _ h => h) (.inl ⟨by rfl, ?_⟩) ?_ ?_
     rotate_left
     · intro w'; go_simp; with_reducible rfl
     rotate_left
     · simp only [Act.put, List.setIfInBounds_toArray, List.set_cons_zero, List.set_cons_succ, i64_w, i32_w]; rfl
     refine dr_last 8 HT rfl (by kernel_rfl) (by decide) (fun K hK => ?_)
     refine if_wp (by rfl) ?_; refine wp_store 1 2 HS (seg := [.slice B206002 y206002.length d206002]) rfl rfl rfl rfl rfl rfl (by kernel_rfl) (by simp [wrt]) (by simp [Value.oneCell']) ?_; clear HS; (try clear F); intro w208001 HS
     replace HS : Hp noFP w _ [.box g4 [.int .i64 0, .string (⟨#[]⟩ : ByteArray), .slice none 0 0] 141, .box g5 [.int .i64 48, .string (⟨#[]⟩ : ByteArray), .slice B206002 y206002.length d206002] 141, .emp, .box g7 [.int .i64 ((rd_T119 a0 x28).f0), .int .i64 ((rd_T119 a0 x28).f1)] 119, .emp, .emp, .own (Zd.slice 141 q141) y206002 [.slice B206002 y206002.length d206002]] := HS
     have F := HS.boxes; simp only [boxFacts, wrt, clr0, clr1, List.cons_append, List.nil_append, List.append_nil, List.set_cons_zero, List.set_cons_succ, and_true] at F
     refine hK.out _ _ ?_
     clear hK K
     refine done_ (done_of HT.out (by kernel_rfl)) ?_
     go_wp2
     go_roundg k25
     case measure => have := HKk25.out; omega
     case rel => exact ⟨_, _, _, rfl, H, ⟨by have := HKk25.out; omega⟩, HS.pick [0, 1, 6] (by decide) (by rfl)⟩
   · replace H := zneg c30 H
     replace c30 := eq_false c30
     obtain rfl := zsome H
     go_wp2_with (first | ((with_reducible refine gate_store (p := 4) rfl ?_); refine ev_store rfl 0 0 HS (seg := [.int .i64 48, .string (⟨#[]⟩ : ByteArray), .slice B27 l26.length d27]) rfl rfl rfl rfl rfl rfl (by kernel_rfl) (by simp [wrt]) (by simp [Value.oneCell']) ?_; clear HS; (try clear F); intro w41 HS; replace HS : Hp noFP w _ [.box g4 [.int .i64 48, .string (⟨#[]⟩ : ByteArray), .slice B27 l26.length d27] 141, .box g5 [.int .i64 48, .string (⟨#[]⟩ : ByteArray), .slice B27 l26.length d27] 141, .own (Zd.slice 141 q141) l26 [.slice B27 l26.length d27]] := HS; have F := HS.boxes; simp only [boxFacts, wrt, clr0, clr1, List.cons_append, List.nil_append, List.append_nil, List.set_cons_zero, List.set_cons_succ, and_true] at F))
     exact bodyPost_ret (results_single rfl (.cell _ _ _ _ _ rfl (HS.boxAt (i := 0) rfl) Try.underlying141 rfl (by kernel_rfl) .nil)) rfl ⟨_, rfl, HS.pick [2] (by decide) (by rfl)⟩
/-! ### impl_crlItem: function 113 -/
def impl_crlItem.f (k : Nat) (a0 : S54) : Option (S141) := ((impl_TextItem.f a0.f0).bind fun t102001 => ((impl_IntItem.f k a0.f1).bind fun t105001 => ((impl_IntItem.f k a0.f2).bind fun t108001 => ((impl_IntItem.f k a0.f3).bind fun t111001 => ((impl_IntItem.f k a0.f4).bind fun t114001 => ((impl_Rev_0.f k a0.f5).bind fun t118001 => ((impl_ListItem.f k ([t102001, t105001, t108001, t111001, t114001, t118001] : List S141)).bind fun t120001 => (some (⟨t120001.f0, t120001.f1, t120001.f2⟩ : S141)))))))))
def impl_crlItem.T2 : Bool × List (List Nat × List Nat) := (true, [([], []), ([0], [0]), ([1], [1]), ([], []), ([3], [3]), ([4, 2], [4]), ([], []), ([6], [6]), ([7, 5], [7]), ([], []), ([9], [9]), ([10, 8], [10]), ([], []), ([12], [12]), ([13, 11], [13]), ([], []), ([15], [15]), ([], []), ([16, 17, 14], [16, 17]), ([2, 5, 8, 11, 14, 18], [2, 5, 8, 11, 14, 18]), ([19, 18], [19]), ([20, 20, 0, 1, 2, 3, 4, 5, 6, 7, 8, 9, 10, 11, 12, 13, 14, 15, 16, 17, 18, 19, 20], [20])])
theorem impl_crlItem.tT2 : rtab .any (opsOf Try.f113 2) = impl_crlItem.T2 := by kernel_rfl
set_option maxHeartbeats 16000000 in
theorem impl_crlItem.calls {k : Nat} {a0 : S54} {Ap0 : Option Addr} {np0 cp0 : Nat} {r : S141} {w : World} (h : impl_crlItem.f k a0 = some r) (gp0 : k119.C w Ap0 np0 a0.f5) (lp0 : np0 ≤ cp0) :
    Calls Try.prog 113 #[.agg #[.string a0.f0, .int .i64 a0.f1, .int .i64 a0.f2, .int .i64 a0.f3, .int .i64 a0.f4, .slice Ap0 np0 cp0, .string a0.f6]] w (fun e w' => ∃ v0_ : Value, e = .returned (.agg #[.int .i64 r.f0, .string r.f1, v0_]) ∧ Hp noFP w w' [.own (Zd.slice 141 q141) r.f2 [v0_]]) := by
 obtain rfl := C_len gp0
 have HS := Hp.start w
 have H := Aside0.mk h
 clear h
 unfold impl_crlItem.f at H
 go_enter Try.func113, Try.ntmps113
 go_wp2_with (first | ((with_reducible refine gate_dst (N := 1) rfl ?_); refine ev_box rfl HS (by first | (go_simp; done) | (go_simp; rfl)) rfl ?_; clear HS; (try clear F); intro g1 w1 HS; replace HS : Hp noFP w _ [.box g1 [.string a0.f0, .int .i64 a0.f1, .int .i64 a0.f2, .int .i64 a0.f3, .int .i64 a0.f4, .slice Ap0 a0.f5.length cp0, .string a0.f6] 54] := HS; have F := HS.boxes; simp only [boxFacts, wrt, clr0, clr1, List.cons_append, List.nil_append, List.append_nil, List.set_cons_zero, List.set_cons_succ, and_true] at F) | ((with_reducible refine gate_dst (N := 2) rfl ?_); refine ev_box rfl HS (by first | (go_simp; done) | (go_simp; rfl)) rfl ?_; clear HS; (try clear F); intro g2 w2 HS; replace HS : Hp noFP w _ [.box g1 [.string a0.f0, .int .i64 a0.f1, .int .i64 a0.f2, .int .i64 a0.f3, .int .i64 a0.f4, .slice Ap0 a0.f5.length cp0, .string a0.f6] 54, .box g2 [.int .i64 0, .string (⟨#[]⟩ : ByteArray), .slice none 0 0] 141] := HS; have F := HS.boxes; simp only [boxFacts, wrt, clr0, clr1, List.cons_append, List.nil_append, List.append_nil, List.set_cons_zero, List.set_cons_succ, and_true] at F))
 obtain ⟨t102001, ht102001, H⟩ := zbind H
 obtain ⟨t105001, ht105001, H⟩ := zbind H
 obtain ⟨t108001, ht108001, H⟩ := zbind H
 obtain ⟨t111001, ht111001, H⟩ := zbind H
 obtain ⟨t114001, ht114001, H⟩ := zbind H
 obtain ⟨t118001, ht118001, H⟩ := zbind H
 obtain ⟨t120001, ht120001, H⟩ := zbind H
 refine dr_start [21] HS #[false, false, false, false, false, false, false, false, false, false, false, false, false, false, false, false, false, false, false, false, false, false] (by kernel_rfl) rfl rfl impl_crlItem.tT2 (fun w6 HT HS HH => ?_)
 (try clear F)
 refine dr_pure 0 (some 4) HT (v := ?_) (a' := ?_) rfl rfl (by kernel_rfl) (fun _ _ _ h => h) (.inl ⟨by rfl, ?_⟩) ?_ ?_
 rotate_left
 · intro w'; go_simp; with_reducible rfl
 rotate_left
 · simp only [Act.put, List.setIfInBounds_toArray, List.set_cons_zero, List.set_cons_succ, i64_w, i32_w]; rfl
 refine dr_take 1 (some 5) HT HH (v := ?_) (a' := ?_) rfl rfl (by kernel_rfl) (fun _ _ _ h => h) (.inl ⟨by rfl, ?_⟩) ?_ ?_
 rotate_left
 · rintro w' ⟨rs', HS'⟩; have F := HS'.boxes; simp only [boxFacts, wrt, clr0, clr1, List.cons_append, List.nil_append, List.append_nil, List.set_cons_zero, List.set_cons_succ, and_true] at F; go_simp; with_reducible rfl
 rotate_left
 · simp only [Act.put, List.setIfInBounds_toArray, List.set_cons_zero, List.set_cons_succ, i64_w, i32_w]; rfl
 refine dr_pure 3 (some 7) HT (v := ?_) (a' := ?_) rfl rfl (by kernel_rfl) (fun _ _ _ h => h) (.inl ⟨by rfl, ?_⟩) ?_ ?_
 rotate_left
 · intro w'; go_simp; with_reducible rfl
 rotate_left
 · simp only [Act.put, List.setIfInBounds_toArray, List.set_cons_zero, List.set_cons_succ, i64_w, i32_w]; rfl
 refine dr_take 4 (some 8) HT HH (v := ?_) (a' := ?_) rfl rfl (by kernel_rfl) (fun _ _ _ h => h) (.inl ⟨by rfl, ?_⟩) ?_ ?_
 rotate_left
 · rintro w' ⟨rs', HS'⟩; have F := HS'.boxes; simp only [boxFacts, wrt, clr0, clr1, List.cons_append, List.nil_append, List.append_nil, List.set_cons_zero, List.set_cons_succ, and_true] at F; go_simp; with_reducible rfl
 rotate_left
 · simp only [Act.put, List.setIfInBounds_toArray, List.set_cons_zero, List.set_cons_succ, i64_w, i32_w]; rfl
 refine dr_pure 6 (some 10) HT (v := ?_) (a' := ?_) rfl rfl (by kernel_rfl) (fun _ _ _ h => h) (.inl ⟨by rfl, ?_⟩) ?_ ?_
 rotate_left
 · intro w'; go_simp; with_reducible rfl
 rotate_left
 · simp only [Act.put, List.setIfInBounds_toArray, List.set_cons_zero, List.set_cons_succ, i64_w, i32_w]; rfl
 refine dr_take 7 (some 11) HT HH (v := ?_) (a' := ?_) rfl rfl (by kernel_rfl) (fun _ _ _ h => h) (.inl ⟨by rfl, ?_⟩) ?_ ?_
 rotate_left
 · rintro w' ⟨rs', HS'⟩; have F := HS'.boxes; simp only [boxFacts, wrt, clr0, clr1, List.cons_append, List.nil_append, List.append_nil, List.set_cons_zero, List.set_cons_succ, and_true] at F; go_simp; with_reducible rfl
 rotate_left
 · simp only [Act.put, List.setIfInBounds_toArray, List.set_cons_zero, List.set_cons_succ, i64_w, i32_w]; rfl
 refine dr_pure 9 (some 13) HT (v := ?_) (a' := ?_) rfl rfl (by kernel_rfl) (fun _ _ _ h => h) (.inl ⟨by rfl, ?_⟩) ?_ ?_
 rotate_left
 · intro w'; go_simp; with_reducible rfl
 rotate_left
 · simp only [Act.put, List.setIfInBounds_toArray, List.set_cons_zero, List.set_cons_succ, i64_w, i32_w]; rfl
 refine dr_take 10 (some 14) HT HH (v := ?_) (a' := ?_) rfl rfl (by kernel_rfl) (fun _ _ _ h => h) (.inl ⟨by rfl, ?_⟩) ?_ ?_
 rotate_left
 · rintro w' ⟨rs', HS'⟩; have F := HS'.boxes; simp only [boxFacts, wrt, clr0, clr1, List.cons_append, List.nil_append, List.append_nil, List.set_cons_zero, List.set_cons_succ, and_true] at F; go_simp; with_reducible rfl
 rotate_left
 · simp only [Act.put, List.setIfInBounds_toArray, List.set_cons_zero, List.set_cons_succ, i64_w, i32_w]; rfl
 refine dr_pure 12 (some 16) HT (v := ?_) (a' := ?_) rfl rfl (by kernel_rfl) (fun _ _ _ h => h) (.inl ⟨by rfl, ?_⟩) ?_ ?_
 rotate_left
 · intro w'; go_simp; with_reducible rfl
 rotate_left
 · simp only [Act.put, List.setIfInBounds_toArray, List.set_cons_zero, List.set_cons_succ, i64_w, i32_w]; rfl
 refine dr_take 13 (some 17) HT HH (v := ?_) (a' := ?_) rfl rfl (by kernel_rfl) (fun _ _ _ h => h) (.inl ⟨by rfl, ?_⟩) ?_ ?_
 rotate_left
 · rintro w' ⟨rs', HS'⟩; have F := HS'.boxes; simp only [boxFacts, wrt, clr0, clr1, List.cons_append, List.nil_append, List.append_nil, List.set_cons_zero, List.set_cons_succ, and_true] at F; go_simp; with_reducible rfl
 rotate_left
 · simp only [Act.put, List.setIfInBounds_toArray, List.set_cons_zero, List.set_cons_succ, i64_w, i32_w]; rfl
 refine dr_pure 15 (some 19) HT (v := ?_) (a' := ?_) rfl rfl (by kernel_rfl) (fun _ _ _ h => h) (.inl ⟨by rfl, ?_⟩) ?_ ?_
 rotate_left
 · intro w'; go_simp; with_reducible rfl
 rotate_left
 · simp only [Act.put, List.setIfInBounds_toArray, List.set_cons_zero, List.set_cons_succ, i64_w, i32_w]; rfl
 refine dr_take 16 (some 20) HT HH (v := ?_) (a' := ?_) rfl rfl (by kernel_rfl) (fun _ _ _ h => h) (.inl ⟨by rfl, ?_⟩) ?_ ?_
 rotate_left
 · rintro w' ⟨rs', HS'⟩; have F := HS'.boxes; simp only [boxFacts, wrt, clr0, clr1, List.cons_append, List.nil_append, List.append_nil, List.set_cons_zero, List.set_cons_succ, and_true] at F; go_simp; with_reducible rfl
 rotate_left
 · simp only [Act.put, List.setIfInBounds_toArray, List.set_cons_zero, List.set_cons_succ, i64_w, i32_w]; rfl
 refine dr_pure 17 (some 21) HT (v := ?_) (a' := ?_) rfl rfl (by kernel_rfl) (fun _ _ _ h => h) (.inl ⟨by rfl, ?_⟩) ?_ ?_
 rotate_left
 · intro w'; go_simp; with_reducible rfl
 rotate_left
 · simp only [Act.put, List.setIfInBounds_toArray, List.set_cons_zero, List.set_cons_succ, i64_w, i32_w]; rfl
 refine dr_one 2 HT rfl (by kernel_rfl) (by decide) (fun K hK => ?_)
 refine goes_ Try.func136 (by kernel_rfl) rfl #[.string a0.f0] (by rfl) rfl rfl (by simp only [List.map_toArray, List.map_cons, List.map_nil]; rfl) ?_; refine (impl_TextItem.calls ht102001.out).mono ?_; rintro _ wt102001 ⟨v102002, rfl, HQ⟩; refine ⟨_, rfl, ?_⟩; replace HS := HS.call HQ; clear HQ; (try clear F); obtain ⟨B102002, d102002, rfl, m102002⟩ := HS.form 2 rfl
 replace HS : Hp noFP w _ [.box g1 [.string a0.f0, .int .i64 a0.f1, .int .i64 a0.f2, .int .i64 a0.f3, .int .i64 a0.f4, .slice Ap0 a0.f5.length cp0, .string a0.f6] 54, .box g2 [.int .i64 0, .string (⟨#[]⟩ : ByteArray), .slice none 0 0] 141, .own (Zd.slice 141 q141) t102001.f2 [.slice B102002 t102001.f2.length d102002]] := HS
 have F := HS.boxes; simp only [boxFacts, wrt, clr0, clr1, List.cons_append, List.nil_append, List.append_nil, List.set_cons_zero, List.set_cons_succ, and_true] at F
 refine hK.out _ _ ⟨_, HS⟩ (fun HH => ?_)
 clear hK K
 refine norm_ (a' := ?_) ?_ ?_
 rotate_left
 · show Act.put _ (some 6) _ = _; simp only [Act.put, List.setIfInBounds_toArray, List.set_cons_zero, List.set_cons_succ, i64_w, i32_w]; rfl
 refine dr_one 5 HT rfl (by kernel_rfl) (by decide) (fun K hK => ?_)
 refine goes_ Try.func120 (by kernel_rfl) rfl #[.int .i64 a0.f1] (by rfl) rfl rfl (by simp only [List.map_toArray, List.map_cons, List.map_nil]; rfl) ?_; refine (impl_IntItem.calls ht105001.out).mono ?_; rintro _ wt105001 ⟨v105002, rfl, HQ⟩; refine ⟨_, rfl, ?_⟩; replace HS := HS.call HQ; clear HQ; (try clear F); obtain ⟨B105002, d105002, rfl, m105002⟩ := HS.form 3 rfl
 replace HS : Hp noFP w _ [.box g1 [.string a0.f0, .int .i64 a0.f1, .int .i64 a0.f2, .int .i64 a0.f3, .int .i64 a0.f4, .slice Ap0 a0.f5.length cp0, .string a0.f6] 54, .box g2 [.int .i64 0, .string (⟨#[]⟩ : ByteArray), .slice none 0 0] 141, .own (Zd.slice 141 q141) t102001.f2 [.slice B102002 t102001.f2.length d102002], .own (Zd.slice 141 q141) t105001.f2 [.slice B105002 t105001.f2.length d105002]] := HS
 have F := HS.boxes; simp only [boxFacts, wrt, clr0, clr1, List.cons_append, List.nil_append, List.append_nil, List.set_cons_zero, List.set_cons_succ, and_true] at F
 refine hK.out _ _ ⟨_, HS⟩ (fun HH => ?_)
 clear hK K
 refine norm_ (a' := ?_) ?_ ?_
 rotate_left
 · show Act.put _ (some 9) _ = _; simp only [Act.put, List.setIfInBounds_toArray, List.set_cons_zero, List.set_cons_succ, i64_w, i32_w]; rfl
 refine dr_one 8 HT rfl (by kernel_rfl) (by decide) (fun K hK => ?_)
 refine goes_ Try.func120 (by kernel_rfl) rfl #[.int .i64 a0.f2] (by rfl) rfl rfl (by simp only [List.map_toArray, List.map_cons, List.map_nil]; rfl) ?_; refine (impl_IntItem.calls ht108001.out).mono ?_; rintro _ wt108001 ⟨v108002, rfl, HQ⟩; refine ⟨_, rfl, ?_⟩; replace HS := HS.call HQ; clear HQ; (try clear F); obtain ⟨B108002, d108002, rfl, m108002⟩ := HS.form 4 rfl
 replace HS : Hp noFP w _ [.box g1 [.string a0.f0, .int .i64 a0.f1, .int .i64 a0.f2, .int .i64 a0.f3, .int .i64 a0.f4, .slice Ap0 a0.f5.length cp0, .string a0.f6] 54, .box g2 [.int .i64 0, .string (⟨#[]⟩ : ByteArray), .slice none 0 0] 141, .own (Zd.slice 141 q141) t102001.f2 [.slice B102002 t102001.f2.length d102002], .own (Zd.slice 141 q141) t105001.f2 [.slice B105002 t105001.f2.length d105002], .own (Zd.slice 141 q141) t108001.f2 [.slice B108002 t108001.f2.length d108002]] := HS
 have F := HS.boxes; simp only [boxFacts, wrt, clr0, clr1, List.cons_append, List.nil_append, List.append_nil, List.set_cons_zero, List.set_cons_succ, and_true] at F
 refine hK.out _ _ ⟨_, HS⟩ (fun HH => ?_)
 clear hK K
 refine norm_ (a' := ?_) ?_ ?_
 rotate_left
 · show Act.put _ (some 12) _ = _; simp only [Act.put, List.setIfInBounds_toArray, List.set_cons_zero, List.set_cons_succ, i64_w, i32_w]; rfl
 refine dr_one 11 HT rfl (by kernel_rfl) (by decide) (fun K hK => ?_)
 refine goes_ Try.func120 (by kernel_rfl) rfl #[.int .i64 a0.f3] (by rfl) rfl rfl (by simp only [List.map_toArray, List.map_cons, List.map_nil]; rfl) ?_; refine (impl_IntItem.calls ht111001.out).mono ?_; rintro _ wt111001 ⟨v111002, rfl, HQ⟩; refine ⟨_, rfl, ?_⟩; replace HS := HS.call HQ; clear HQ; (try clear F); obtain ⟨B111002, d111002, rfl, m111002⟩ := HS.form 5 rfl
 replace HS : Hp noFP w _ [.box g1 [.string a0.f0, .int .i64 a0.f1, .int .i64 a0.f2, .int .i64 a0.f3, .int .i64 a0.f4, .slice Ap0 a0.f5.length cp0, .string a0.f6] 54, .box g2 [.int .i64 0, .string (⟨#[]⟩ : ByteArray), .slice none 0 0] 141, .own (Zd.slice 141 q141) t102001.f2 [.slice B102002 t102001.f2.length d102002], .own (Zd.slice 141 q141) t105001.f2 [.slice B105002 t105001.f2.length d105002], .own (Zd.slice 141 q141) t108001.f2 [.slice B108002 t108001.f2.length d108002], .own (Zd.slice 141 q141) t111001.f2 [.slice B111002 t111001.f2.length d111002]] := HS
 have F := HS.boxes; simp only [boxFacts, wrt, clr0, clr1, List.cons_append, List.nil_append, List.append_nil, List.set_cons_zero, List.set_cons_succ, and_true] at F
 refine hK.out _ _ ⟨_, HS⟩ (fun HH => ?_)
 clear hK K
 refine norm_ (a' := ?_) ?_ ?_
 rotate_left
 · show Act.put _ (some 15) _ = _; simp only [Act.put, List.setIfInBounds_toArray, List.set_cons_zero, List.set_cons_succ, i64_w, i32_w]; rfl
 refine dr_one 14 HT rfl (by kernel_rfl) (by decide) (fun K hK => ?_)
 refine goes_ Try.func120 (by kernel_rfl) rfl #[.int .i64 a0.f4] (by rfl) rfl rfl (by simp only [List.map_toArray, List.map_cons, List.map_nil]; rfl) ?_; refine (impl_IntItem.calls ht114001.out).mono ?_; rintro _ wt114001 ⟨v114002, rfl, HQ⟩; refine ⟨_, rfl, ?_⟩; replace HS := HS.call HQ; clear HQ; (try clear F); obtain ⟨B114002, d114002, rfl, m114002⟩ := HS.form 6 rfl
 replace HS : Hp noFP w _ [.box g1 [.string a0.f0, .int .i64 a0.f1, .int .i64 a0.f2, .int .i64 a0.f3, .int .i64 a0.f4, .slice Ap0 a0.f5.length cp0, .string a0.f6] 54, .box g2 [.int .i64 0, .string (⟨#[]⟩ : ByteArray), .slice none 0 0] 141, .own (Zd.slice 141 q141) t102001.f2 [.slice B102002 t102001.f2.length d102002], .own (Zd.slice 141 q141) t105001.f2 [.slice B105002 t105001.f2.length d105002], .own (Zd.slice 141 q141) t108001.f2 [.slice B108002 t108001.f2.length d108002], .own (Zd.slice 141 q141) t111001.f2 [.slice B111002 t111001.f2.length d111002], .own (Zd.slice 141 q141) t114001.f2 [.slice B114002 t114001.f2.length d114002]] := HS
 have F := HS.boxes; simp only [boxFacts, wrt, clr0, clr1, List.cons_append, List.nil_append, List.append_nil, List.set_cons_zero, List.set_cons_succ, and_true] at F
 refine hK.out _ _ ⟨_, HS⟩ (fun HH => ?_)
 clear hK K
 refine norm_ (a' := ?_) ?_ ?_
 rotate_left
 · show Act.put _ (some 18) _ = _; simp only [Act.put, List.setIfInBounds_toArray, List.set_cons_zero, List.set_cons_succ, i64_w, i32_w]; rfl
 refine dr_one 18 HT rfl (by kernel_rfl) (by decide) (fun K hK => ?_)
 refine goes_ Try.func137 (by kernel_rfl) rfl #[.slice Ap0 a0.f5.length cp0, .func (.func 135) #[] #[]] (by rfl) rfl rfl (by simp only [List.map_toArray, List.map_cons, List.map_nil]; rfl) ?_; refine (impl_Rev_0.calls ht118001.out (HS.ro gp0) lp0).mono ?_; rintro _ wt118001 ⟨v118002, rfl, HQ⟩; refine ⟨_, rfl, ?_⟩; replace HS := HS.call HQ; clear HQ; (try clear F); obtain ⟨B118002, d118002, rfl, m118002⟩ := HS.form 7 rfl
 replace HS : Hp noFP w _ [.box g1 [.string a0.f0, .int .i64 a0.f1, .int .i64 a0.f2, .int .i64 a0.f3, .int .i64 a0.f4, .slice Ap0 a0.f5.length cp0, .string a0.f6] 54, .box g2 [.int .i64 0, .string (⟨#[]⟩ : ByteArray), .slice none 0 0] 141, .own (Zd.slice 141 q141) t102001.f2 [.slice B102002 t102001.f2.length d102002], .own (Zd.slice 141 q141) t105001.f2 [.slice B105002 t105001.f2.length d105002], .own (Zd.slice 141 q141) t108001.f2 [.slice B108002 t108001.f2.length d108002], .own (Zd.slice 141 q141) t111001.f2 [.slice B111002 t111001.f2.length d111002], .own (Zd.slice 141 q141) t114001.f2 [.slice B114002 t114001.f2.length d114002], .own (Zd.slice 141 q141) t118001.f2 [.slice B118002 t118001.f2.length d118002]] := HS
 have F := HS.boxes; simp only [boxFacts, wrt, clr0, clr1, List.cons_append, List.nil_append, List.append_nil, List.set_cons_zero, List.set_cons_succ, and_true] at F
 refine hK.out _ _ ⟨_, HS⟩ (fun HH => ?_)
 clear hK K
 refine norm_ (a' := ?_) ?_ ?_
 rotate_left
 · show Act.put _ (some 22) _ = _; simp only [Act.put, List.setIfInBounds_toArray, List.set_cons_zero, List.set_cons_succ, i64_w, i32_w]; rfl
 refine dr_one 19 HT rfl (by kernel_rfl) (by decide) (fun K hK => ?_)
 refine if_wp (by rfl) ?_; refine wp_lit q141 [2, 3, 4, 5, 6, 7] ([t102001, t105001, t108001, t111001, t114001, t118001] : List S141) ([.int .i64 t102001.f0, .string t102001.f1, .slice B102002 t102001.f2.length d102002] ++ ([.int .i64 t105001.f0, .string t105001.f1, .slice B105002 t105001.f2.length d105002] ++ ([.int .i64 t108001.f0, .string t108001.f1, .slice B108002 t108001.f2.length d108002] ++ ([.int .i64 t111001.f0, .string t111001.f1, .slice B111002 t111001.f2.length d111002] ++ ([.int .i64 t114001.f0, .string t114001.f1, .slice B114002 t114001.f2.length d114002] ++ ([.int .i64 t118001.f0, .string t118001.f1, .slice B118002 t118001.f2.length d118002] ++ [])))))) HS (by first | (go_simp; done) | (go_simp; rfl)) rfl rfl (Nat.le_of_ble_eq_true rfl) (MadeL.cons (js1 := [2]) (c := [.int .i64 t102001.f0, .string t102001.f1, .slice B102002 t102001.f2.length d102002]) rfl (fun S hd hh => q141_pack (x := t102001) hd (hh 2 (.own (Zd.slice 141 q141) t102001.f2 [.slice B102002 t102001.f2.length d102002]) rfl) (by decide)) (MadeL.cons (js1 := [3]) (c := [.int .i64 t105001.f0, .string t105001.f1, .slice B105002 t105001.f2.length d105002]) rfl (fun S hd hh => q141_pack (x := t105001) hd (hh 3 (.own (Zd.slice 141 q141) t105001.f2 [.slice B105002 t105001.f2.length d105002]) rfl) (by decide)) (MadeL.cons (js1 := [4]) (c := [.int .i64 t108001.f0, .string t108001.f1, .slice B108002 t108001.f2.length d108002]) rfl (fun S hd hh => q141_pack (x := t108001) hd (hh 4 (.own (Zd.slice 141 q141) t108001.f2 [.slice B108002 t108001.f2.length d108002]) rfl) (by decide)) (MadeL.cons (js1 := [5]) (c := [.int .i64 t111001.f0, .string t111001.f1, .slice B111002 t111001.f2.length d111002]) rfl (fun S hd hh => q141_pack (x := t111001) hd (hh 5 (.own (Zd.slice 141 q141) t111001.f2 [.slice B111002 t111001.f2.length d111002]) rfl) (by decide)) (MadeL.cons (js1 := [6]) (c := [.int .i64 t114001.f0, .string t114001.f1, .slice B114002 t114001.f2.length d114002]) rfl (fun S hd hh => q141_pack (x := t114001) hd (hh 6 (.own (Zd.slice 141 q141) t114001.f2 [.slice B114002 t114001.f2.length d114002]) rfl) (by decide)) (MadeL.cons (js1 := [7]) (c := [.int .i64 t118001.f0, .string t118001.f1, .slice B118002 t118001.f2.length d118002]) rfl (fun S hd hh => q141_pack (x := t118001) hd (hh 7 (.own (Zd.slice 141 q141) t118001.f2 [.slice B118002 t118001.f2.length d118002]) rfl) (by decide)) MadeL.nil (by decide)) (by decide)) (by decide)) (by decide)) (by decide)) (by decide)) ?_; clear HS; (try clear F); intro v119001 w119001 HS; obtain ⟨B119001, d119001, rfl, m119001⟩ := HS.formn 6 8 rfl rfl
 replace HS : Hp noFP w _ [.box g1 [.string a0.f0, .int .i64 a0.f1, .int .i64 a0.f2, .int .i64 a0.f3, .int .i64 a0.f4, .slice Ap0 a0.f5.length cp0, .string a0.f6] 54, .box g2 [.int .i64 0, .string (⟨#[]⟩ : ByteArray), .slice none 0 0] 141, .emp, .emp, .emp, .emp, .emp, .emp, .own (Zd.slice 141 q141) ([t102001, t105001, t108001, t111001, t114001, t118001] : List S141) [.slice B119001 6 d119001]] := HS
 have F := HS.boxes; simp only [boxFacts, wrt, clr0, clr1, List.cons_append, List.nil_append, List.append_nil, List.set_cons_zero, List.set_cons_succ, and_true] at F
 refine hK.out _ _ ⟨_, HS⟩ (fun HH => ?_)
 clear hK K
 refine norm_ (a' := ?_) ?_ ?_
 rotate_left
 · show Act.put _ (some 23) _ = _; simp only [Act.put, List.setIfInBounds_toArray, List.set_cons_zero, List.set_cons_succ, i64_w, i32_w]; rfl
 refine dr_one 20 HT rfl (by kernel_rfl) (by decide) (fun K hK => ?_)
 refine goes_ Try.func117 (by kernel_rfl) rfl #[.slice B119001 6 d119001] (by rfl) rfl rfl (by simp only [List.map_toArray, List.map_cons, List.map_nil]; rfl) ?_; refine (impl_ListItem.calls ht120001.out (HS.rd 8 rfl) m119001).mono ?_; rintro _ wt120001 ⟨v120002, rfl, HQ⟩; refine ⟨_, rfl, ?_⟩; replace HS := HS.call HQ; clear HQ; (try clear F); obtain ⟨B120002, d120002, rfl, m120002⟩ := HS.form 9 rfl
 replace HS : Hp noFP w _ [.box g1 [.string a0.f0, .int .i64 a0.f1, .int .i64 a0.f2, .int .i64 a0.f3, .int .i64 a0.f4, .slice Ap0 a0.f5.length cp0, .string a0.f6] 54, .box g2 [.int .i64 0, .string (⟨#[]⟩ : ByteArray), .slice none 0 0] 141, .emp, .emp, .emp, .emp, .emp, .emp, .own (Zd.slice 141 q141) ([t102001, t105001, t108001, t111001, t114001, t118001] : List S141) [.slice B119001 6 d119001], .own (Zd.slice 141 q141) t120001.f2 [.slice B120002 t120001.f2.length d120002]] := HS
 have F := HS.boxes; simp only [boxFacts, wrt, clr0, clr1, List.cons_append, List.nil_append, List.append_nil, List.set_cons_zero, List.set_cons_succ, and_true] at F
 refine hK.out _ _ ⟨_, HS⟩ (fun HH => ?_)
 clear hK K
 refine norm_ (a' := ?_) ?_ ?_
 rotate_left
 · show Act.put _ (some 24) _ = _; simp only [Act.put, List.setIfInBounds_toArray, List.set_cons_zero, List.set_cons_succ, i64_w, i32_w]; rfl
 refine dr_last 21 HT rfl (by kernel_rfl) (by decide) (fun K hK => ?_)
 refine if_wp (by rfl) ?_; refine wp_store 1 0 HS (seg := [.int .i64 t120001.f0, .string t120001.f1, .slice B120002 t120001.f2.length d120002]) rfl rfl rfl rfl rfl rfl (by kernel_rfl) (by simp [wrt]) (by simp [Value.oneCell']) ?_; clear HS; (try clear F); intro w121001 HS
 replace HS : Hp noFP w _ [.box g1 [.string a0.f0, .int .i64 a0.f1, .int .i64 a0.f2, .int .i64 a0.f3, .int .i64 a0.f4, .slice Ap0 a0.f5.length cp0, .string a0.f6] 54, .box g2 [.int .i64 t120001.f0, .string t120001.f1, .slice B120002 t120001.f2.length d120002] 141, .emp, .emp, .emp, .emp, .emp, .emp, .own (Zd.slice 141 q141) ([t102001, t105001, t108001, t111001, t114001, t118001] : List S141) [.slice B119001 6 d119001], .own (Zd.slice 141 q141) t120001.f2 [.slice B120002 t120001.f2.length d120002]] := HS
 have F := HS.boxes; simp only [boxFacts, wrt, clr0, clr1, List.cons_append, List.nil_append, List.append_nil, List.set_cons_zero, List.set_cons_succ, and_true] at F
 refine hK.out _ _ ?_
 clear hK K
 refine done_ (done_of HT.out (by kernel_rfl)) ?_
 obtain rfl := zsome H
 go_wp2
 exact bodyPost_ret (results_single rfl (.cell _ _ _ _ _ rfl (HS.boxAt (i := 1) rfl) Try.underlying141 rfl (by kernel_rfl) .nil)) rfl ⟨_, rfl, HS.pick [9] (by decide) (by rfl)⟩
/-! ### impl_CrlBody: function 69 -/
def impl_CrlBody.f (k : Nat) (a0 : S54) : Option (ByteArray) := ((impl_crlItem.f k a0).bind fun t3 => ((impl_ItemText.f k t3).bind fun t6 => (some t6.1)))
set_option maxHeartbeats 16000000 in
theorem impl_CrlBody.calls {k : Nat} {a0 : S54} {Ap0 : Option Addr} {np0 cp0 : Nat} {r : ByteArray} {w : World} (h : impl_CrlBody.f k a0 = some r) (gp0 : k119.C w Ap0 np0 a0.f5) (lp0 : np0 ≤ cp0) :
    Calls Try.prog 69 #[.agg #[.string a0.f0, .int .i64 a0.f1, .int .i64 a0.f2, .int .i64 a0.f3, .int .i64 a0.f4, .slice Ap0 np0 cp0, .string a0.f6]] w (fun e w' => e = .returned (.string r) ∧ Hp noFP w w' []) := by
 obtain rfl := C_len gp0
 have HS := Hp.start w
 have H := Aside0.mk h
 clear h
 unfold impl_CrlBody.f at H
 go_enter Try.func69, Try.ntmps69
 obtain ⟨t3, ht3, H⟩ := zbind H
 obtain ⟨t6, ht6, H⟩ := zbind H
 obtain rfl := zsome H
 go_wp2_with (first | ((with_reducible refine gate_dst (N := 1) rfl ?_); refine ev_box rfl HS (by first | (go_simp; done) | (go_simp; rfl)) rfl ?_; clear HS; (try clear F); intro g1 w1 HS; replace HS : Hp noFP w _ [.box g1 [.string a0.f0, .int .i64 a0.f1, .int .i64 a0.f2, .int .i64 a0.f3, .int .i64 a0.f4, .slice Ap0 a0.f5.length cp0, .string a0.f6] 54] := HS; have F := HS.boxes; simp only [boxFacts, wrt, clr0, clr1, List.cons_append, List.nil_append, List.append_nil, List.set_cons_zero, List.set_cons_succ, and_true] at F) | ((with_reducible refine gate_dst (N := 7) rfl ?_); refine ev_call rfl Try.func113 (by kernel_rfl) rfl #[.agg #[.string a0.f0, .int .i64 a0.f1, .int .i64 a0.f2, .int .i64 a0.f3, .int .i64 a0.f4, .slice Ap0 a0.f5.length cp0, .string a0.f6]] rfl (by simp only [List.map_toArray, List.map_cons, List.map_nil]; rfl) ?_; refine (impl_crlItem.calls ht3.out (HS.ro gp0) lp0).mono ?_; rintro _ wt3 ⟨v4, rfl, HQ⟩; refine ⟨_, rfl, ?_⟩; replace HS := HS.call HQ; clear HQ; (try clear F); obtain ⟨B4, d4, rfl, m4⟩ := HS.form 1 rfl; replace HS : Hp noFP w _ [.box g1 [.string a0.f0, .int .i64 a0.f1, .int .i64 a0.f2, .int .i64 a0.f3, .int .i64 a0.f4, .slice Ap0 a0.f5.length cp0, .string a0.f6] 54, .own (Zd.slice 141 q141) t3.f2 [.slice B4 t3.f2.length d4]] := HS; have F := HS.boxes; simp only [boxFacts, wrt, clr0, clr1, List.cons_append, List.nil_append, List.append_nil, List.set_cons_zero, List.set_cons_succ, and_true] at F) | ((with_reducible refine gate_dst (N := 8) rfl ?_); refine ev_call rfl Try.func112 (by kernel_rfl) rfl #[.agg #[.int .i64 t3.f0, .string t3.f1, .slice B4 t3.f2.length d4]] rfl (by simp only [List.map_toArray, List.map_cons, List.map_nil]; rfl) ?_; refine (impl_ItemText.calls ht6.out (HS.rd 1 rfl) m4).mono ?_; rintro _ wt6 ⟨rfl, HQ⟩; refine ⟨_, rfl, ?_⟩; replace HS := HS.call HQ; clear HQ; (try clear F); replace HS : Hp noFP w _ [.box g1 [.string a0.f0, .int .i64 a0.f1, .int .i64 a0.f2, .int .i64 a0.f3, .int .i64 a0.f4, .slice Ap0 a0.f5.length cp0, .string a0.f6] 54, .own (Zd.slice 141 q141) t3.f2 [.slice B4 t3.f2.length d4]] := HS; have F := HS.boxes; simp only [boxFacts, wrt, clr0, clr1, List.cons_append, List.nil_append, List.append_nil, List.set_cons_zero, List.set_cons_succ, and_true] at F))
 go_ret
 exact ⟨rfl, HS.pick [] (by decide) (by rfl)⟩
/-! ### laws_FnExactCrlBody: function 13 -/
def laws_FnExactCrlBody.f (k : Nat) (a0 : S49) : Option (Bool) := ((laws_szCrl.f a0 1048576).bind fun t3 => (if t3 < 0 then (some true) else ((laws_toCrl.f k a0).bind fun t6 => ((spec_CrlBody.f k t6).bind fun t9 => ((laws_toCrl.f k a0).bind fun t11 => ((impl_CrlBody.f k t11).bind fun t18 => (if t18.toList = t9.toList then ((laws_toCrl.f k a0).bind fun t102001 => ((laws_eqCrl.f k t11 t102001).bind fun t103001 => (if t103001 = true then (some true) else (some false)))) else (some false))))))))
def laws_FnExactCrlBody.T10 : Bool × List (List Nat × List Nat) := (true, [([], []), ([], []), ([1], [1]), ([0, 2, 2], [0, 2]), ([3], [3])])
theorem laws_FnExactCrlBody.tT10 : rtab .any (opsOf Try.f13 10) = laws_FnExactCrlBody.T10 := by kernel_rfl
set_option maxHeartbeats 16000000 in
theorem laws_FnExactCrlBody.calls {k : Nat} {a0 : S49} {Ap0 : Option Addr} {np0 cp0 : Nat} {r : Bool} {w : World} (h : laws_FnExactCrlBody.f k a0 = some r) (gp0 : k152.C w Ap0 np0 a0.f5) (lp0 : np0 ≤ cp0) :
    Calls Try.prog 13 #[.agg #[.string a0.f0, .int .i64 a0.f1, .int .i64 a0.f2, .int .i64 a0.f3, .int .i64 a0.f4, .slice Ap0 np0 cp0, .string a0.f6]] w (fun e w' => e = .returned (.bool r) ∧ Hp noFP w w' []) := by
 obtain rfl := C_len gp0
 have HS := Hp.start w
 have H := Aside0.mk h
 clear h
 unfold laws_FnExactCrlBody.f at H
 go_enter Try.func13, Try.ntmps13
 obtain ⟨t3, ht3, H⟩ := zbind H
 go_upto_if 11 with (first | ((with_reducible refine gate_dst (N := 1) rfl ?_); refine ev_box rfl HS (by first | (go_simp; done) | (go_simp; rfl)) rfl ?_; clear HS; (try clear F); intro g1 w1 HS; replace HS : Hp noFP w _ [.box g1 [.string a0.f0, .int .i64 a0.f1, .int .i64 a0.f2, .int .i64 a0.f3, .int .i64 a0.f4, .slice Ap0 a0.f5.length cp0, .string a0.f6] 49] := HS; have F := HS.boxes; simp only [boxFacts, wrt, clr0, clr1, List.cons_append, List.nil_append, List.append_nil, List.set_cons_zero, List.set_cons_succ, and_true] at F) | ((with_reducible refine gate_dst (N := 9) rfl ?_); refine ev_call rfl Try.func29 (by kernel_rfl) rfl #[.agg #[.string a0.f0, .int .i64 a0.f1, .int .i64 a0.f2, .int .i64 a0.f3, .int .i64 a0.f4, .slice Ap0 a0.f5.length cp0, .string a0.f6], .int .i64 1048576] rfl (by simp only [List.map_toArray, List.map_cons, List.map_nil]; rfl) ?_; refine (laws_szCrl.calls ht3.out (HS.ro gp0) lp0).mono ?_; rintro _ wt3 ⟨rfl, HQ⟩; refine ⟨_, rfl, ?_⟩; replace HS := HS.call HQ; clear HQ; (try clear F); replace HS : Hp noFP w _ [.box g1 [.string a0.f0, .int .i64 a0.f1, .int .i64 a0.f2, .int .i64 a0.f3, .int .i64 a0.f4, .slice Ap0 a0.f5.length cp0, .string a0.f6] 49] := HS; have F := HS.boxes; simp only [boxFacts, wrt, clr0, clr1, List.cons_append, List.nil_append, List.append_nil, List.set_cons_zero, List.set_cons_succ, and_true] at F))
 by_cases c5 : t3 < 0
 · replace H := zpos c5 H
   replace c5 := eq_true c5
   (try simp only [c5, decide_true, decide_false, Bool.not_true, Bool.not_false])
   obtain rfl := zsome H
   go_wp2
   go_ret
   exact ⟨rfl, HS.pick [] (by decide) (by rfl)⟩
 · replace H := zneg c5 H
   replace c5 := eq_false c5
   (try simp only [c5, decide_true, decide_false, Bool.not_true, Bool.not_false])
   obtain ⟨t6, ht6, H⟩ := zbind H
   obtain ⟨t9, ht9, H⟩ := zbind H
   obtain ⟨t11, ht11, H⟩ := zbind H
   obtain ⟨t18, ht18, H⟩ := zbind H
   go_upto_if 21 with (first | ((with_reducible refine gate_dst (N := 13) rfl ?_); refine ev_call rfl Try.func31 (by kernel_rfl) rfl #[.agg #[.string a0.f0, .int .i64 a0.f1, .int .i64 a0.f2, .int .i64 a0.f3, .int .i64 a0.f4, .slice Ap0 a0.f5.length cp0, .string a0.f6]] rfl (by simp only [List.map_toArray, List.map_cons, List.map_nil]; rfl) ?_; refine (laws_toCrl.calls ht6.out (HS.ro gp0) lp0).mono ?_; rintro _ wt6 ⟨v7, rfl, HQ⟩; refine ⟨_, rfl, ?_⟩; replace HS := HS.call HQ; clear HQ; (try clear F); obtain ⟨B7, d7, rfl, m7⟩ := HS.form 1 rfl; replace HS : Hp noFP w _ [.box g1 [.string a0.f0, .int .i64 a0.f1, .int .i64 a0.f2, .int .i64 a0.f3, .int .i64 a0.f4, .slice Ap0 a0.f5.length cp0, .string a0.f6] 49, .own (Zd.slice 119 q119) t6.f5 [.slice B7 t6.f5.length d7]] := HS; have F := HS.boxes; simp only [boxFacts, wrt, clr0, clr1, List.cons_append, List.nil_append, List.append_nil, List.set_cons_zero, List.set_cons_succ, and_true] at F) | ((with_reducible refine gate_dst (N := 14) rfl ?_); refine ev_call rfl Try.func68 (by kernel_rfl) rfl #[.agg #[.string t6.f0, .int .i64 t6.f1, .int .i64 t6.f2, .int .i64 t6.f3, .int .i64 t6.f4, .slice B7 t6.f5.length d7, .string t6.f6]] rfl (by simp only [List.map_toArray, List.map_cons, List.map_nil]; rfl) ?_; refine (spec_CrlBody.calls ht9.out (HS.rd 1 rfl) m7).mono ?_; rintro _ wt9 ⟨rfl, HQ⟩; refine ⟨_, rfl, ?_⟩; replace HS := HS.call HQ; clear HQ; (try clear F); replace HS : Hp noFP w _ [.box g1 [.string a0.f0, .int .i64 a0.f1, .int .i64 a0.f2, .int .i64 a0.f3, .int .i64 a0.f4, .slice Ap0 a0.f5.length cp0, .string a0.f6] 49, .own (Zd.slice 119 q119) t6.f5 [.slice B7 t6.f5.length d7]] := HS; have F := HS.boxes; simp only [boxFacts, wrt, clr0, clr1, List.cons_append, List.nil_append, List.append_nil, List.set_cons_zero, List.set_cons_succ, and_true] at F) | ((with_reducible refine gate_dst (N := 16) rfl ?_); refine ev_call rfl Try.func31 (by kernel_rfl) rfl #[.agg #[.string a0.f0, .int .i64 a0.f1, .int .i64 a0.f2, .int .i64 a0.f3, .int .i64 a0.f4, .slice Ap0 a0.f5.length cp0, .string a0.f6]] rfl (by simp only [List.map_toArray, List.map_cons, List.map_nil]; rfl) ?_; refine (laws_toCrl.calls ht11.out (HS.ro gp0) lp0).mono ?_; rintro _ wt11 ⟨v12, rfl, HQ⟩; refine ⟨_, rfl, ?_⟩; replace HS := HS.call HQ; clear HQ; (try clear F); obtain ⟨B12, d12, rfl, m12⟩ := HS.form 2 rfl; replace HS : Hp noFP w _ [.box g1 [.string a0.f0, .int .i64 a0.f1, .int .i64 a0.f2, .int .i64 a0.f3, .int .i64 a0.f4, .slice Ap0 a0.f5.length cp0, .string a0.f6] 49, .own (Zd.slice 119 q119) t6.f5 [.slice B7 t6.f5.length d7], .own (Zd.slice 119 q119) t11.f5 [.slice B12 t11.f5.length d12]] := HS; have F := HS.boxes; simp only [boxFacts, wrt, clr0, clr1, List.cons_append, List.nil_append, List.append_nil, List.set_cons_zero, List.set_cons_succ, and_true] at F) | ((with_reducible refine gate_dst (N := 5) rfl ?_); refine ev_box rfl HS (by first | (go_simp; done) | (go_simp; rfl)) rfl ?_; clear HS; (try clear F); intro g5 w5 HS; replace HS : Hp noFP w _ [.box g1 [.string a0.f0, .int .i64 a0.f1, .int .i64 a0.f2, .int .i64 a0.f3, .int .i64 a0.f4, .slice Ap0 a0.f5.length cp0, .string a0.f6] 49, .own (Zd.slice 119 q119) t6.f5 [.slice B7 t6.f5.length d7], .own (Zd.slice 119 q119) t11.f5 [.slice B12 t11.f5.length d12], .box g5 [.string (⟨#[]⟩ : ByteArray), .int .i64 0, .int .i64 0, .int .i64 0, .int .i64 0, .slice none 0 0, .string (⟨#[]⟩ : ByteArray)] 54] := HS; have F := HS.boxes; simp only [boxFacts, wrt, clr0, clr1, List.cons_append, List.nil_append, List.append_nil, List.set_cons_zero, List.set_cons_succ, and_true] at F) | ((with_reducible refine gate_store (p := 5) rfl ?_); refine ev_store rfl 3 0 HS (seg := [.string t11.f0, .int .i64 t11.f1, .int .i64 t11.f2, .int .i64 t11.f3, .int .i64 t11.f4, .slice B12 t11.f5.length d12, .string t11.f6]) rfl rfl rfl rfl rfl rfl (by kernel_rfl) (by simp [wrt]) (by simp [Value.oneCell']) ?_; clear HS; (try clear F); intro w16 HS; replace HS : Hp noFP w _ [.box g1 [.string a0.f0, .int .i64 a0.f1, .int .i64 a0.f2, .int .i64 a0.f3, .int .i64 a0.f4, .slice Ap0 a0.f5.length cp0, .string a0.f6] 49, .own (Zd.slice 119 q119) t6.f5 [.slice B7 t6.f5.length d7], .own (Zd.slice 119 q119) t11.f5 [.slice B12 t11.f5.length d12], .box g5 [.string t11.f0, .int .i64 t11.f1, .int .i64 t11.f2, .int .i64 t11.f3, .int .i64 t11.f4, .slice B12 t11.f5.length d12, .string t11.f6] 54] := HS; have F := HS.boxes; simp only [boxFacts, wrt, clr0, clr1, List.cons_append, List.nil_append, List.append_nil, List.set_cons_zero, List.set_cons_succ, and_true] at F) | ((with_reducible refine gate_dst (N := 18) rfl ?_); refine ev_call rfl Try.func69 (by kernel_rfl) rfl #[.agg #[.string t11.f0, .int .i64 t11.f1, .int .i64 t11.f2, .int .i64 t11.f3, .int .i64 t11.f4, .slice B12 t11.f5.length d12, .string t11.f6]] rfl (by simp only [List.map_toArray, List.map_cons, List.map_nil]; rfl) ?_; refine (impl_CrlBody.calls ht18.out (HS.rd 2 rfl) m12).mono ?_; rintro _ wt18 ⟨rfl, HQ⟩; refine ⟨_, rfl, ?_⟩; replace HS := HS.call HQ; clear HQ; (try clear F); replace HS : Hp noFP w _ [.box g1 [.string a0.f0, .int .i64 a0.f1, .int .i64 a0.f2, .int .i64 a0.f3, .int .i64 a0.f4, .slice Ap0 a0.f5.length cp0, .string a0.f6] 49, .own (Zd.slice 119 q119) t6.f5 [.slice B7 t6.f5.length d7], .own (Zd.slice 119 q119) t11.f5 [.slice B12 t11.f5.length d12], .box g5 [.string t11.f0, .int .i64 t11.f1, .int .i64 t11.f2, .int .i64 t11.f3, .int .i64 t11.f4, .slice B12 t11.f5.length d12, .string t11.f6] 54] := HS; have F := HS.boxes; simp only [boxFacts, wrt, clr0, clr1, List.cons_append, List.nil_append, List.append_nil, List.set_cons_zero, List.set_cons_succ, and_true] at F))
   by_cases c20 : t18.toList = t9.toList
   · replace H := zpos c20 H
     have c20a := beq_iff_eq.mpr c20
     have c20b := bne_eq_false_iff_eq.mpr c20
     clear c20
     (try simp only [c20a, c20b, decide_true, decide_false, Bool.not_true, Bool.not_false])
     (try go_wp2)
     obtain ⟨t102001, ht102001, H⟩ := zbind H
     obtain ⟨t103001, ht103001, H⟩ := zbind H
     refine dr_start [] HS #[false, false, false, false, false] (by kernel_rfl) rfl rfl laws_FnExactCrlBody.tT10 (fun w22 HT HS HH => ?_)
     (try clear F)
     refine dr_take 0 (some 22) HT HH (v := ?_) (a' := ?_) rfl rfl (by kernel_rfl) (fun _ _ _ h => h) (.inl ⟨by rfl, ?_⟩) ?_ ?_
     rotate_left
     · rintro w' ⟨rs', HS'⟩; have F := HS'.boxes; simp only [boxFacts, wrt, clr0, clr1, List.cons_append, List.nil_append, List.append_nil, List.set_cons_zero, List.set_cons_succ, and_true] at F; go_simp; with_reducible rfl
     rotate_left
     · simp only [Act.put, List.setIfInBounds_toArray, List.set_cons_zero, List.set_cons_succ, i64_w, i32_w]; rfl
     refine dr_take 1 (some 23) HT HH (v := ?_) (a' := ?_) rfl rfl (by kernel_rfl) (fun _ _ _ h => h) (.inl ⟨by rfl, ?_⟩) ?_ ?_
     rotate_left
     · rintro w' ⟨rs', HS'⟩; have F := HS'.boxes; simp only [boxFacts, wrt, clr0, clr1, List.cons_append, List.nil_append, List.append_nil, List.set_cons_zero, List.set_cons_succ, and_true] at F; go_simp; with_reducible rfl
     rotate_left
     · simp only [Act.put, List.setIfInBounds_toArray, List.set_cons_zero, List.set_cons_succ, i64_w, i32_w]; rfl
     refine dr_one 2 HT rfl (by kernel_rfl) (by decide) (fun K hK => ?_)
     refine goes_ Try.func31 (by kernel_rfl) rfl #[.agg #[.string a0.f0, .int .i64 a0.f1, .int .i64 a0.f2, .int .i64 a0.f3, .int .i64 a0.f4, .slice Ap0 a0.f5.length cp0, .string a0.f6]] (by rfl) rfl rfl (by simp only [List.map_toArray, List.map_cons, List.map_nil]; rfl) ?_; refine (laws_toCrl.calls ht102001.out (HS.ro gp0) lp0).mono ?_; rintro _ wt102001 ⟨v102002, rfl, HQ⟩; refine ⟨_, rfl, ?_⟩; replace HS := HS.call HQ; clear HQ; (try clear F); obtain ⟨B102002, d102002, rfl, m102002⟩ := HS.form 4 rfl
     replace HS : Hp noFP w _ [.box g1 [.string a0.f0, .int .i64 a0.f1, .int .i64 a0.f2, .int .i64 a0.f3, .int .i64 a0.f4, .slice Ap0 a0.f5.length cp0, .string a0.f6] 49, .own (Zd.slice 119 q119) t6.f5 [.slice B7 t6.f5.length d7], .own (Zd.slice 119 q119) t11.f5 [.slice B12 t11.f5.length d12], .box g5 [.string t11.f0, .int .i64 t11.f1, .int .i64 t11.f2, .int .i64 t11.f3, .int .i64 t11.f4, .slice B12 t11.f5.length d12, .string t11.f6] 54, .own (Zd.slice 119 q119) t102001.f5 [.slice B102002 t102001.f5.length d102002]] := HS
     have F := HS.boxes; simp only [boxFacts, wrt, clr0, clr1, List.cons_append, List.nil_append, List.append_nil, List.set_cons_zero, List.set_cons_succ, and_true] at F
     refine hK.out _ _ ⟨_, HS⟩ (fun HH => ?_)
     clear hK K
     refine norm_ (a' := ?_) ?_ ?_
     rotate_left
     · show Act.put _ (some 24) _ = _; simp only [Act.put, List.setIfInBounds_toArray, List.set_cons_zero, List.set_cons_succ, i64_w, i32_w]; rfl
     refine dr_one 3 HT rfl (by kernel_rfl) (by decide) (fun K hK => ?_)
     refine goes_ Try.func33 (by kernel_rfl) rfl #[.agg #[.string t11.f0, .int .i64 t11.f1, .int .i64 t11.f2, .int .i64 t11.f3, .int .i64 t11.f4, .slice B12 t11.f5.length d12, .string t11.f6], .agg #[.string t102001.f0, .int .i64 t102001.f1, .int .i64 t102001.f2, .int .i64 t102001.f3, .int .i64 t102001.f4, .slice B102002 t102001.f5.length d102002, .string t102001.f6]] (by rfl) rfl rfl (by simp only [List.map_toArray, List.map_cons, List.map_nil]; rfl) ?_; refine (laws_eqCrl.calls ht103001.out (HS.rd 2 rfl) m12 (HS.rd 4 rfl) m102002).mono ?_; rintro _ wt103001 ⟨rfl, HQ⟩; refine ⟨_, rfl, ?_⟩; replace HS := HS.call HQ; clear HQ; (try clear F)
     replace HS : Hp noFP w _ [.box g1 [.string a0.f0, .int .i64 a0.f1, .int .i64 a0.f2, .int .i64 a0.f3, .int .i64 a0.f4, .slice Ap0 a0.f5.length cp0, .string a0.f6] 49, .own (Zd.slice 119 q119) t6.f5 [.slice B7 t6.f5.length d7], .own (Zd.slice 119 q119) t11.f5 [.slice B12 t11.f5.length d12], .box g5 [.string t11.f0, .int .i64 t11.f1, .int .i64 t11.f2, .int .i64 t11.f3, .int .i64 t11.f4, .slice B12 t11.f5.length d12, .string t11.f6] 54, .own (Zd.slice 119 q119) t102001.f5 [.slice B102002 t102001.f5.length d102002]] := HS
     have F := HS.boxes; simp only [boxFacts, wrt, clr0, clr1, List.cons_append, List.nil_append, List.append_nil, List.set_cons_zero, List.set_cons_succ, and_true] at F
     refine hK.out _ _ ⟨_, HS⟩ (fun HH => ?_)
     clear hK K
     refine norm_ (a' := ?_) ?_ ?_
     rotate_left
     · show Act.put _ (some 25) _ = _; simp only [Act.put, List.setIfInBounds_toArray, List.set_cons_zero, List.set_cons_succ, i64_w, i32_w]; rfl
     refine dr_pure 4 (some 26) HT (v := ?_) (a' := ?_) rfl rfl (by kernel_rfl) (fun _ _ _ h => h) (.inl ⟨by rfl, ?_⟩) ?_ ?_
     rotate_left
     · intro w'; go_simp; with_reducible rfl
     rotate_left
     · simp only [Act.put, List.setIfInBounds_toArray, List.set_cons_zero, List.set_cons_succ, i64_w, i32_w]; rfl
     refine done_ (done_of HT.out (by kernel_rfl)) ?_
     by_cases c24 : t103001 = true
     · replace H := zpos c24 H
       (try simp only [c24, decide_true, decide_false, Bool.not_true, Bool.not_false])
       obtain rfl := zsome H
       go_wp2
       go_ret
       exact ⟨rfl, HS.pick [] (by decide) (by rfl)⟩
     · replace H := zneg c24 H
       replace c24 := eq_false_of_ne_true c24
       (try simp only [c24, decide_true, decide_false, Bool.not_true, Bool.not_false])
       obtain rfl := zsome H
       go_wp2
       go_ret
       exact ⟨rfl, HS.pick [] (by decide) (by rfl)⟩
   · replace H := zneg c20 H
     have c20a := beq_eq_false_iff_ne.mpr c20
     have c20b := bne_iff_ne.mpr c20
     clear c20
     (try simp only [c20a, c20b, decide_true, decide_false, Bool.not_true, Bool.not_false])
     obtain rfl := zsome H
     go_wp2
     go_ret
     exact ⟨rfl, HS.pick [] (by decide) (by rfl)⟩
end Go.Proofs.Ytfeebnbookfpmaa.F
