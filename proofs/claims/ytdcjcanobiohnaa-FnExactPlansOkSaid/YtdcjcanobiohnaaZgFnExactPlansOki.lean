/- Functions of the program and of the law, and that their calls do what is written here. -/
import Derived.Test.YtdcjcanobiohnaaZgFnExactPlansOka
import Derived.Test.YtdcjcanobiohnaaZgFnExactPlansOkc
import Derived.Test.YtdcjcanobiohnaaZgFnExactPlansOkd
import Derived.Test.YtdcjcanobiohnaaZgFnExactPlansOke
import Derived.Test.YtdcjcanobiohnaaZgFnExactPlansOkf
import Derived.Test.YtdcjcanobiohnaaZgFnExactPlansOkg
import Derived.Test.YtdcjcanobiohnaaZgFnExactPlansOkh
namespace Go.Proofs.Ytdcjcanobiohnaa.F
open Go.RowKit Go.Proofs.YtdcjcanobiohnaaW.PrintWords Go.Proofs.YtdcjcanobiohnaaW.PrintLast Go.Proofs.YtdcjcanobiohnaaW.PrintMore Go.Proofs.Ytdcjcanobiohnaa.Z
attribute [local go_sem] max2_int min2_int max_two min_two max_three min_three max_four min_four
set_option linter.unusedVariables false
set_option linter.unusedSimpArgs false
set_option maxRecDepth 100000
/-! ### laws_FnExactPlansOk: function 9 -/
def laws_FnExactPlansOk.f (k : Nat) (a0 : (List S143)) (a1 : S76) : Option (Bool) := ((laws_szPlanS.f k a0 1048576).bind fun t3 => (if t3 < 0 then (some true) else ((laws_szStore.f k a1 t3).bind fun t6 => (if t6 < 0 then (some true) else ((laws_toPlanS.f k a0).bind fun t101001 => ((laws_toStore.f k a1).bind fun t103001 => ((spec_PlansOk.f k t101001 t103001).bind fun t104001 => ((laws_toPlanS.f k a0).bind fun t12 => ((laws_toStore.f k a1).bind fun t15 => ((impl_PlansOk.f k t12 t15).bind fun t24 => (if t24 = t104001 then ((laws_toPlanS.f k a0).bind fun t27 => ((laws_eqPlanS.f k t12 t27).bind fun t30 => (if t30 = true then ((laws_toStore.f k a1).bind fun t202001 => ((laws_eqStore.f k t15 t202001).bind fun t203001 => (if t203001 = true then (some true) else (some false)))) else (some false)))) else (some false))))))))))))
def laws_FnExactPlansOk.T8 : Bool × List (List Nat × List Nat) := (true, [([], []), ([0], [0]), ([], []), ([2, 1], [2]), ([1, 3, 3], [1, 3]), ([4, 4, 0, 1, 2, 3, 4], [4])])
theorem laws_FnExactPlansOk.tT8 : rtab .any (opsOf Try.f9 8) = laws_FnExactPlansOk.T8 := by kernel_rfl
def laws_FnExactPlansOk.T16 : Bool × List (List Nat × List Nat) := (true, [([], []), ([], []), ([1], [1]), ([0, 2, 2], [0, 2]), ([3], [3])])
theorem laws_FnExactPlansOk.tT16 : rtab .any (opsOf Try.f9 16) = laws_FnExactPlansOk.T16 := by kernel_rfl
set_option maxHeartbeats 16000000 in
theorem laws_FnExactPlansOk.calls {k : Nat} {a0 : (List S143)} {a1 : S76} {Ap0 : Option Addr} {np0 cp0 : Nat} {Ap1 : Option Addr} {np1 cp1 : Nat} {Ap2 : Option Addr} {np2 cp2 : Nat} {Ap3 : Option Addr} {np3 cp3 : Nat} {r : Bool} {w : World} (h : laws_FnExactPlansOk.f k a0 a1 = some r) (gp0 : k143.C w Ap0 np0 a0) (lp0 : np0 ≤ cp0) (gp1 : k92.C w Ap1 np1 a1.f0) (lp1 : np1 ≤ cp1) (gp2 : k201.C w Ap2 np2 a1.f1) (lp2 : np2 ≤ cp2) (gp3 : k204.C w Ap3 np3 a1.f2) (lp3 : np3 ≤ cp3) :
    Calls Try.prog 9 #[.slice Ap0 np0 cp0, .agg #[.slice Ap1 np1 cp1, .slice Ap2 np2 cp2, .slice Ap3 np3 cp3]] w (fun e w' => e = .returned (.bool r) ∧ Hp noFP w w' []) := by
 obtain rfl := C_len gp0
 obtain rfl := C_len gp1
 obtain rfl := C_len gp2
 obtain rfl := C_len gp3
 have HS := Hp.start w
 have H := Aside0.mk h
 clear h
 unfold laws_FnExactPlansOk.f at H
 go_enter Try.func9, Try.ntmps9
 obtain ⟨t3, ht3, H⟩ := zbind H
 go_upto_if 14 with (first | ((with_reducible refine gate_dst (N := 3) rfl ?_); refine ev_box rfl HS (by first | (go_simp; done) | (go_simp; rfl)) rfl ?_; clear HS; (try clear F); intro g3 w3 HS; replace HS : Hp noFP w _ [.box g3 [.slice Ap1 a1.f0.length cp1, .slice Ap2 a1.f1.length cp2, .slice Ap3 a1.f2.length cp3] 76] := HS; have F := HS.boxes; simp only [boxFacts, wrt, clr0, clr1, List.cons_append, List.nil_append, List.append_nil, List.set_cons_zero, List.set_cons_succ, and_true] at F) | ((with_reducible refine gate_dst (N := 12) rfl ?_); refine ev_call rfl Try.func42 (by kernel_rfl) rfl #[.slice Ap0 a0.length cp0, .int .i64 1048576] rfl (by simp only [List.map_toArray, List.map_cons, List.map_nil]; rfl) ?_; refine (laws_szPlanS.calls ht3.out (HS.ro gp0) lp0).mono ?_; rintro _ wt3 ⟨rfl, HQ⟩; refine ⟨_, rfl, ?_⟩; replace HS := HS.call HQ; clear HQ; (try clear F); replace HS : Hp noFP w _ [.box g3 [.slice Ap1 a1.f0.length cp1, .slice Ap2 a1.f1.length cp2, .slice Ap3 a1.f2.length cp3] 76] := HS; have F := HS.boxes; simp only [boxFacts, wrt, clr0, clr1, List.cons_append, List.nil_append, List.append_nil, List.set_cons_zero, List.set_cons_succ, and_true] at F))
 by_cases c5 : t3 < 0
 · replace H := zpos c5 H
   replace c5 := eq_true c5
   (try simp only [c5, decide_true, decide_false, Bool.not_true, Bool.not_false])
   obtain rfl := zsome H
   go_wp2
   go_ret
   exact ⟨rfl, HS.pick [] (by decide) (by rfl)⟩
 · replace H := zneg c5 H
   replace c5 := eq_false c5
   (try simp only [c5, decide_true, decide_false, Bool.not_true, Bool.not_false])
   obtain ⟨t6, ht6, H⟩ := zbind H
   go_upto_if 19 with (first | ((with_reducible refine gate_dst (N := 17) rfl ?_); refine ev_call rfl Try.func43 (by kernel_rfl) rfl #[.agg #[.slice Ap1 a1.f0.length cp1, .slice Ap2 a1.f1.length cp2, .slice Ap3 a1.f2.length cp3], .int .i64 t3] rfl (by simp only [List.map_toArray, List.map_cons, List.map_nil]; rfl) ?_; refine (laws_szStore.calls ht6.out (HS.ro gp1) lp1 (HS.ro gp2) lp2 (HS.ro gp3) lp3).mono ?_; rintro _ wt6 ⟨rfl, HQ⟩; refine ⟨_, rfl, ?_⟩; replace HS := HS.call HQ; clear HQ; (try clear F); replace HS : Hp noFP w _ [.box g3 [.slice Ap1 a1.f0.length cp1, .slice Ap2 a1.f1.length cp2, .slice Ap3 a1.f2.length cp3] 76] := HS; have F := HS.boxes; simp only [boxFacts, wrt, clr0, clr1, List.cons_append, List.nil_append, List.append_nil, List.set_cons_zero, List.set_cons_succ, and_true] at F))
   by_cases c8 : t6 < 0
   · replace H := zpos c8 H
     replace c8 := eq_true c8
     (try simp only [c8, decide_true, decide_false, Bool.not_true, Bool.not_false])
     obtain rfl := zsome H
     go_wp2
     go_ret
     exact ⟨rfl, HS.pick [] (by decide) (by rfl)⟩
   · replace H := zneg c8 H
     replace c8 := eq_false c8
     (try simp only [c8, decide_true, decide_false, Bool.not_true, Bool.not_false])
     (try go_wp2)
     obtain ⟨t101001, ht101001, H⟩ := zbind H
     obtain ⟨t103001, ht103001, H⟩ := zbind H
     obtain ⟨t104001, ht104001, H⟩ := zbind H
     refine dr_start [] HS #[false, false, false, false, false, false] (by kernel_rfl) rfl rfl laws_FnExactPlansOk.tT8 (fun w10 HT HS HH => ?_)
     (try clear F)
     refine dr_pure 0 (some 20) HT (v := ?_) (a' := ?_) rfl rfl (by kernel_rfl) (fun _ _ _ h => h) (.inl ⟨by rfl, ?_⟩) ?_ ?_
     rotate_left
     · intro w'; go_simp; with_reducible rfl
     rotate_left
     · simp only [Act.put, List.setIfInBounds_toArray, List.set_cons_zero, List.set_cons_succ, i64_w, i32_w]; rfl
     refine dr_take 2 (some 22) HT HH (v := ?_) (a' := ?_) rfl rfl (by kernel_rfl) (fun _ _ _ h => h) (.inl ⟨by rfl, ?_⟩) ?_ ?_
     rotate_left
     · rintro w' ⟨rs', HS'⟩; have F := HS'.boxes; simp only [boxFacts, wrt, clr0, clr1, List.cons_append, List.nil_append, List.append_nil, List.set_cons_zero, List.set_cons_succ, and_true] at F; go_simp; with_reducible rfl
     rotate_left
     · simp only [Act.put, List.setIfInBounds_toArray, List.set_cons_zero, List.set_cons_succ, i64_w, i32_w]; rfl
     refine dr_one 1 HT rfl (by kernel_rfl) (by decide) (fun K hK => ?_)
     refine goes_ Try.func45 (by kernel_rfl) rfl #[.slice Ap0 a0.length cp0] (by rfl) rfl rfl (by simp only [List.map_toArray, List.map_cons, List.map_nil]; rfl) ?_; refine (laws_toPlanS.calls ht101001.out (HS.ro gp0) lp0).mono ?_; rintro _ wt101001 ⟨v101002, rfl, HQ⟩; refine ⟨_, rfl, ?_⟩; replace HS := HS.call HQ; clear HQ; (try clear F); obtain ⟨B101002, d101002, rfl, m101002⟩ := HS.form 1 rfl
     replace HS : Hp noFP w _ [.box g3 [.slice Ap1 a1.f0.length cp1, .slice Ap2 a1.f1.length cp2, .slice Ap3 a1.f2.length cp3] 76, .own (Zd.slice 148 q148) t101001 [.slice B101002 t101001.length d101002]] := HS
     have F := HS.boxes; simp only [boxFacts, wrt, clr0, clr1, List.cons_append, List.nil_append, List.append_nil, List.set_cons_zero, List.set_cons_succ, and_true] at F
     refine hK.out _ _ ⟨_, HS⟩ (fun HH => ?_)
     clear hK K
     refine norm_ (a' := ?_) ?_ ?_
     rotate_left
     · show Act.put _ (some 21) _ = _; simp only [Act.put, List.setIfInBounds_toArray, List.set_cons_zero, List.set_cons_succ, i64_w, i32_w]; rfl
     refine dr_one 3 HT rfl (by kernel_rfl) (by decide) (fun K hK => ?_)
     refine goes_ Try.func46 (by kernel_rfl) rfl #[.agg #[.slice Ap1 a1.f0.length cp1, .slice Ap2 a1.f1.length cp2, .slice Ap3 a1.f2.length cp3]] (by rfl) rfl rfl (by simp only [List.map_toArray, List.map_cons, List.map_nil]; rfl) ?_; refine (laws_toStore.calls ht103001.out (HS.ro gp1) lp1 (HS.ro gp2) lp2 (HS.ro gp3) lp3).mono ?_; rintro _ wt103001 ⟨v103002, v103003, v103004, rfl, HQ⟩; refine ⟨_, rfl, ?_⟩; replace HS := HS.call HQ; clear HQ; (try clear F); obtain ⟨B103002, d103002, rfl, m103002⟩ := HS.form 2 rfl; obtain ⟨B103003, d103003, rfl, m103003⟩ := HS.form 3 rfl; obtain ⟨B103004, d103004, rfl, m103004⟩ := HS.form 4 rfl
     replace HS : Hp noFP w _ [.box g3 [.slice Ap1 a1.f0.length cp1, .slice Ap2 a1.f1.length cp2, .slice Ap3 a1.f2.length cp3] 76, .own (Zd.slice 148 q148) t101001 [.slice B101002 t101001.length d101002], .own (Zd.slice 94 q94) t103001.f0 [.slice B103002 t103001.f0.length d103002], .own (Zd.slice 209 q209) t103001.f1 [.slice B103003 t103001.f1.length d103003], .own (Zd.slice 211 q211) t103001.f2 [.slice B103004 t103001.f2.length d103004]] := HS
     have F := HS.boxes; simp only [boxFacts, wrt, clr0, clr1, List.cons_append, List.nil_append, List.append_nil, List.set_cons_zero, List.set_cons_succ, and_true] at F
     refine hK.out _ _ ⟨_, HS⟩ (fun HH => ?_)
     clear hK K
     refine norm_ (a' := ?_) ?_ ?_
     rotate_left
     · show Act.put _ (some 23) _ = _; simp only [Act.put, List.setIfInBounds_toArray, List.set_cons_zero, List.set_cons_succ, i64_w, i32_w]; rfl
     refine dr_one 4 HT rfl (by kernel_rfl) (by decide) (fun K hK => ?_)
     refine goes_ Try.func44 (by kernel_rfl) rfl #[.slice B101002 t101001.length d101002, .agg #[.slice B103002 t103001.f0.length d103002, .slice B103003 t103001.f1.length d103003, .slice B103004 t103001.f2.length d103004]] (by rfl) rfl rfl (by simp only [List.map_toArray, List.map_cons, List.map_nil]; rfl) ?_; refine (spec_PlansOk.calls ht104001.out (HS.rd 1 rfl) m101002 (HS.rd 2 rfl) m103002 (HS.rd 3 rfl) m103003 (HS.rd 4 rfl) m103004).mono ?_; rintro _ wt104001 ⟨rfl, HQ⟩; refine ⟨_, rfl, ?_⟩; replace HS := HS.call HQ; clear HQ; (try clear F)
     replace HS : Hp noFP w _ [.box g3 [.slice Ap1 a1.f0.length cp1, .slice Ap2 a1.f1.length cp2, .slice Ap3 a1.f2.length cp3] 76, .own (Zd.slice 148 q148) t101001 [.slice B101002 t101001.length d101002], .own (Zd.slice 94 q94) t103001.f0 [.slice B103002 t103001.f0.length d103002], .own (Zd.slice 209 q209) t103001.f1 [.slice B103003 t103001.f1.length d103003], .own (Zd.slice 211 q211) t103001.f2 [.slice B103004 t103001.f2.length d103004]] := HS
     have F := HS.boxes; simp only [boxFacts, wrt, clr0, clr1, List.cons_append, List.nil_append, List.append_nil, List.set_cons_zero, List.set_cons_succ, and_true] at F
     refine hK.out _ _ ⟨_, HS⟩ (fun HH => ?_)
     clear hK K
     refine norm_ (a' := ?_) ?_ ?_
     rotate_left
     · show Act.put _ (some 24) _ = _; simp only [Act.put, List.setIfInBounds_toArray, List.set_cons_zero, List.set_cons_succ, i64_w, i32_w]; rfl
     refine dr_pure 5 (some 6) HT (v := ?_) (a' := ?_) rfl rfl (by kernel_rfl) (fun _ _ _ h => h) (.inl ⟨by rfl, ?_⟩) ?_ ?_
     rotate_left
     · intro w'; go_simp; with_reducible rfl
     rotate_left
     · simp only [Act.put, List.setIfInBounds_toArray, List.set_cons_zero, List.set_cons_succ, i64_w, i32_w]; rfl
     refine done_ (done_of HT.out (by kernel_rfl)) ?_
     obtain ⟨t12, ht12, H⟩ := zbind H
     obtain ⟨t15, ht15, H⟩ := zbind H
     obtain ⟨t24, ht24, H⟩ := zbind H
     go_upto_if 34 with (first | ((with_reducible refine gate_dst (N := 26) rfl ?_); refine ev_call rfl Try.func45 (by kernel_rfl) rfl #[.slice Ap0 a0.length cp0] rfl (by simp only [List.map_toArray, List.map_cons, List.map_nil]; rfl) ?_; refine (laws_toPlanS.calls ht12.out (HS.ro gp0) lp0).mono ?_; rintro _ wt12 ⟨v13, rfl, HQ⟩; refine ⟨_, rfl, ?_⟩; replace HS := HS.call HQ; clear HQ; (try clear F); obtain ⟨B13, d13, rfl, m13⟩ := HS.form 5 rfl; replace HS : Hp noFP w _ [.box g3 [.slice Ap1 a1.f0.length cp1, .slice Ap2 a1.f1.length cp2, .slice Ap3 a1.f2.length cp3] 76, .own (Zd.slice 148 q148) t101001 [.slice B101002 t101001.length d101002], .own (Zd.slice 94 q94) t103001.f0 [.slice B103002 t103001.f0.length d103002], .own (Zd.slice 209 q209) t103001.f1 [.slice B103003 t103001.f1.length d103003], .own (Zd.slice 211 q211) t103001.f2 [.slice B103004 t103001.f2.length d103004], .own (Zd.slice 148 q148) t12 [.slice B13 t12.length d13]] := HS; have F := HS.boxes; simp only [boxFacts, wrt, clr0, clr1, List.cons_append, List.nil_append, List.append_nil, List.set_cons_zero, List.set_cons_succ, and_true] at F) | ((with_reducible refine gate_dst (N := 28) rfl ?_); refine ev_call rfl Try.func46 (by kernel_rfl) rfl #[.agg #[.slice Ap1 a1.f0.length cp1, .slice Ap2 a1.f1.length cp2, .slice Ap3 a1.f2.length cp3]] rfl (by simp only [List.map_toArray, List.map_cons, List.map_nil]; rfl) ?_; refine (laws_toStore.calls ht15.out (HS.ro gp1) lp1 (HS.ro gp2) lp2 (HS.ro gp3) lp3).mono ?_; rintro _ wt15 ⟨v16, v17, v18, rfl, HQ⟩; refine ⟨_, rfl, ?_⟩; replace HS := HS.call HQ; clear HQ; (try clear F); obtain ⟨B16, d16, rfl, m16⟩ := HS.form 6 rfl; obtain ⟨B17, d17, rfl, m17⟩ := HS.form 7 rfl; obtain ⟨B18, d18, rfl, m18⟩ := HS.form 8 rfl; replace HS : Hp noFP w _ [.box g3 [.slice Ap1 a1.f0.length cp1, .slice Ap2 a1.f1.length cp2, .slice Ap3 a1.f2.length cp3] 76, .own (Zd.slice 148 q148) t101001 [.slice B101002 t101001.length d101002], .own (Zd.slice 94 q94) t103001.f0 [.slice B103002 t103001.f0.length d103002], .own (Zd.slice 209 q209) t103001.f1 [.slice B103003 t103001.f1.length d103003], .own (Zd.slice 211 q211) t103001.f2 [.slice B103004 t103001.f2.length d103004], .own (Zd.slice 148 q148) t12 [.slice B13 t12.length d13], .own (Zd.slice 94 q94) t15.f0 [.slice B16 t15.f0.length d16], .own (Zd.slice 209 q209) t15.f1 [.slice B17 t15.f1.length d17], .own (Zd.slice 211 q211) t15.f2 [.slice B18 t15.f2.length d18]] := HS; have F := HS.boxes; simp only [boxFacts, wrt, clr0, clr1, List.cons_append, List.nil_append, List.append_nil, List.set_cons_zero, List.set_cons_succ, and_true] at F) | ((with_reducible refine gate_dst (N := 8) rfl ?_); refine ev_box rfl HS (by first | (go_simp; done) | (go_simp; rfl)) rfl ?_; clear HS; (try clear F); intro g8 w8 HS; replace HS : Hp noFP w _ [.box g3 [.slice Ap1 a1.f0.length cp1, .slice Ap2 a1.f1.length cp2, .slice Ap3 a1.f2.length cp3] 76, .own (Zd.slice 148 q148) t101001 [.slice B101002 t101001.length d101002], .own (Zd.slice 94 q94) t103001.f0 [.slice B103002 t103001.f0.length d103002], .own (Zd.slice 209 q209) t103001.f1 [.slice B103003 t103001.f1.length d103003], .own (Zd.slice 211 q211) t103001.f2 [.slice B103004 t103001.f2.length d103004], .own (Zd.slice 148 q148) t12 [.slice B13 t12.length d13], .own (Zd.slice 94 q94) t15.f0 [.slice B16 t15.f0.length d16], .own (Zd.slice 209 q209) t15.f1 [.slice B17 t15.f1.length d17], .own (Zd.slice 211 q211) t15.f2 [.slice B18 t15.f2.length d18], .box g8 [.slice none 0 0, .slice none 0 0, .slice none 0 0] 85] := HS; have F := HS.boxes; simp only [boxFacts, wrt, clr0, clr1, List.cons_append, List.nil_append, List.append_nil, List.set_cons_zero, List.set_cons_succ, and_true] at F) | ((with_reducible refine gate_store (p := 8) rfl ?_); refine ev_store rfl 9 0 HS (seg := [.slice B16 t15.f0.length d16, .slice B17 t15.f1.length d17, .slice B18 t15.f2.length d18]) rfl rfl rfl rfl rfl rfl (by kernel_rfl) (by simp [wrt]) (by simp [Value.oneCell']) ?_; clear HS; (try clear F); intro w22 HS; replace HS : Hp noFP w _ [.box g3 [.slice Ap1 a1.f0.length cp1, .slice Ap2 a1.f1.length cp2, .slice Ap3 a1.f2.length cp3] 76, .own (Zd.slice 148 q148) t101001 [.slice B101002 t101001.length d101002], .own (Zd.slice 94 q94) t103001.f0 [.slice B103002 t103001.f0.length d103002], .own (Zd.slice 209 q209) t103001.f1 [.slice B103003 t103001.f1.length d103003], .own (Zd.slice 211 q211) t103001.f2 [.slice B103004 t103001.f2.length d103004], .own (Zd.slice 148 q148) t12 [.slice B13 t12.length d13], .own (Zd.slice 94 q94) t15.f0 [.slice B16 t15.f0.length d16], .own (Zd.slice 209 q209) t15.f1 [.slice B17 t15.f1.length d17], .own (Zd.slice 211 q211) t15.f2 [.slice B18 t15.f2.length d18], .box g8 [.slice B16 t15.f0.length d16, .slice B17 t15.f1.length d17, .slice B18 t15.f2.length d18] 85] := HS; have F := HS.boxes; simp only [boxFacts, wrt, clr0, clr1, List.cons_append, List.nil_append, List.append_nil, List.set_cons_zero, List.set_cons_succ, and_true] at F) | ((with_reducible refine gate_dst (N := 31) rfl ?_); refine ev_call rfl Try.func47 (by kernel_rfl) rfl #[.slice B13 t12.length d13, .agg #[.slice B16 t15.f0.length d16, .slice B17 t15.f1.length d17, .slice B18 t15.f2.length d18]] rfl (by simp only [List.map_toArray, List.map_cons, List.map_nil]; rfl) ?_; refine (impl_PlansOk.calls ht24.out (HS.rd 5 rfl) m13 (HS.rd 6 rfl) m16 (HS.rd 7 rfl) m17 (HS.rd 8 rfl) m18).mono ?_; rintro _ wt24 ⟨rfl, HQ⟩; refine ⟨_, rfl, ?_⟩; replace HS := HS.call HQ; clear HQ; (try clear F); replace HS : Hp noFP w _ [.box g3 [.slice Ap1 a1.f0.length cp1, .slice Ap2 a1.f1.length cp2, .slice Ap3 a1.f2.length cp3] 76, .own (Zd.slice 148 q148) t101001 [.slice B101002 t101001.length d101002], .own (Zd.slice 94 q94) t103001.f0 [.slice B103002 t103001.f0.length d103002], .own (Zd.slice 209 q209) t103001.f1 [.slice B103003 t103001.f1.length d103003], .own (Zd.slice 211 q211) t103001.f2 [.slice B103004 t103001.f2.length d103004], .own (Zd.slice 148 q148) t12 [.slice B13 t12.length d13], .own (Zd.slice 94 q94) t15.f0 [.slice B16 t15.f0.length d16], .own (Zd.slice 209 q209) t15.f1 [.slice B17 t15.f1.length d17], .own (Zd.slice 211 q211) t15.f2 [.slice B18 t15.f2.length d18], .box g8 [.slice B16 t15.f0.length d16, .slice B17 t15.f1.length d17, .slice B18 t15.f2.length d18] 85] := HS; have F := HS.boxes; simp only [boxFacts, wrt, clr0, clr1, List.cons_append, List.nil_append, List.append_nil, List.set_cons_zero, List.set_cons_succ, and_true] at F))
     by_cases c26 : t24 = t104001
     · replace H := zpos c26 H
       have c26a := beq_iff_eq.mpr c26
       have c26b := bne_eq_false_iff_eq.mpr c26
       clear c26
       (try simp only [c26a, c26b, decide_true, decide_false, Bool.not_true, Bool.not_false])
       obtain ⟨t27, ht27, H⟩ := zbind H
       obtain ⟨t30, ht30, H⟩ := zbind H
       go_upto_if 39 with (first | ((with_reducible refine gate_dst (N := 37) rfl ?_); refine ev_call rfl Try.func45 (by kernel_rfl) rfl #[.slice Ap0 a0.length cp0] rfl (by simp only [List.map_toArray, List.map_cons, List.map_nil]; rfl) ?_; refine (laws_toPlanS.calls ht27.out (HS.ro gp0) lp0).mono ?_; rintro _ wt27 ⟨v28, rfl, HQ⟩; refine ⟨_, rfl, ?_⟩; replace HS := HS.call HQ; clear HQ; (try clear F); obtain ⟨B28, d28, rfl, m28⟩ := HS.form 10 rfl; replace HS : Hp noFP w _ [.box g3 [.slice Ap1 a1.f0.length cp1, .slice Ap2 a1.f1.length cp2, .slice Ap3 a1.f2.length cp3] 76, .own (Zd.slice 148 q148) t101001 [.slice B101002 t101001.length d101002], .own (Zd.slice 94 q94) t103001.f0 [.slice B103002 t103001.f0.length d103002], .own (Zd.slice 209 q209) t103001.f1 [.slice B103003 t103001.f1.length d103003], .own (Zd.slice 211 q211) t103001.f2 [.slice B103004 t103001.f2.length d103004], .own (Zd.slice 148 q148) t12 [.slice B13 t12.length d13], .own (Zd.slice 94 q94) t15.f0 [.slice B16 t15.f0.length d16], .own (Zd.slice 209 q209) t15.f1 [.slice B17 t15.f1.length d17], .own (Zd.slice 211 q211) t15.f2 [.slice B18 t15.f2.length d18], .box g8 [.slice B16 t15.f0.length d16, .slice B17 t15.f1.length d17, .slice B18 t15.f2.length d18] 85, .own (Zd.slice 148 q148) t27 [.slice B28 t27.length d28]] := HS; have F := HS.boxes; simp only [boxFacts, wrt, clr0, clr1, List.cons_append, List.nil_append, List.append_nil, List.set_cons_zero, List.set_cons_succ, and_true] at F) | ((with_reducible refine gate_dst (N := 38) rfl ?_); refine ev_call rfl Try.func48 (by kernel_rfl) rfl #[.slice B13 t12.length d13, .slice B28 t27.length d28] rfl (by simp only [List.map_toArray, List.map_cons, List.map_nil]; rfl) ?_; refine (laws_eqPlanS.calls ht30.out (HS.rd 5 rfl) m13 (HS.rd 10 rfl) m28).mono ?_; rintro _ wt30 ⟨rfl, HQ⟩; refine ⟨_, rfl, ?_⟩; replace HS := HS.call HQ; clear HQ; (try clear F); replace HS : Hp noFP w _ [.box g3 [.slice Ap1 a1.f0.length cp1, .slice Ap2 a1.f1.length cp2, .slice Ap3 a1.f2.length cp3] 76, .own (Zd.slice 148 q148) t101001 [.slice B101002 t101001.length d101002], .own (Zd.slice 94 q94) t103001.f0 [.slice B103002 t103001.f0.length d103002], .own (Zd.slice 209 q209) t103001.f1 [.slice B103003 t103001.f1.length d103003], .own (Zd.slice 211 q211) t103001.f2 [.slice B103004 t103001.f2.length d103004], .own (Zd.slice 148 q148) t12 [.slice B13 t12.length d13], .own (Zd.slice 94 q94) t15.f0 [.slice B16 t15.f0.length d16], .own (Zd.slice 209 q209) t15.f1 [.slice B17 t15.f1.length d17], .own (Zd.slice 211 q211) t15.f2 [.slice B18 t15.f2.length d18], .box g8 [.slice B16 t15.f0.length d16, .slice B17 t15.f1.length d17, .slice B18 t15.f2.length d18] 85, .own (Zd.slice 148 q148) t27 [.slice B28 t27.length d28]] := HS; have F := HS.boxes; simp only [boxFacts, wrt, clr0, clr1, List.cons_append, List.nil_append, List.append_nil, List.set_cons_zero, List.set_cons_succ, and_true] at F))
       by_cases c32 : t30 = true
       · replace H := zpos c32 H
         (try simp only [c32, decide_true, decide_false, Bool.not_true, Bool.not_false])
         (try go_wp2)
         obtain ⟨t202001, ht202001, H⟩ := zbind H
         obtain ⟨t203001, ht203001, H⟩ := zbind H
         refine dr_start [] HS #[false, false, false, false, false] (by kernel_rfl) rfl rfl laws_FnExactPlansOk.tT16 (fun w34 HT HS HH => ?_)
         (try clear F)
         refine dr_take 0 (some 40) HT HH (v := ?_) (a' := ?_) rfl rfl (by kernel_rfl) (fun _ _ _ h => h) (.inl ⟨by rfl, ?_⟩) ?_ ?_
         rotate_left
         · rintro w' ⟨rs', HS'⟩; have F := HS'.boxes; simp only [boxFacts, wrt, clr0, clr1, List.cons_append, List.nil_append, List.append_nil, List.set_cons_zero, List.set_cons_succ, and_true] at F; go_simp; with_reducible rfl
         rotate_left
         · simp only [Act.put, List.setIfInBounds_toArray, List.set_cons_zero, List.set_cons_succ, i64_w, i32_w]; rfl
         refine dr_take 1 (some 41) HT HH (v := ?_) (a' := ?_) rfl rfl (by kernel_rfl) (fun _ _ _ h => h) (.inl ⟨by rfl, ?_⟩) ?_ ?_
         rotate_left
         · rintro w' ⟨rs', HS'⟩; have F := HS'.boxes; simp only [boxFacts, wrt, clr0, clr1, List.cons_append, List.nil_append, List.append_nil, List.set_cons_zero, List.set_cons_succ, and_true] at F; go_simp; with_reducible rfl
         rotate_left
         · simp only [Act.put, List.setIfInBounds_toArray, List.set_cons_zero, List.set_cons_succ, i64_w, i32_w]; rfl
         refine dr_one 2 HT rfl (by kernel_rfl) (by decide) (fun K hK => ?_)
         refine goes_ Try.func46 (by kernel_rfl) rfl #[.agg #[.slice Ap1 a1.f0.length cp1, .slice Ap2 a1.f1.length cp2, .slice Ap3 a1.f2.length cp3]] (by rfl) rfl rfl (by simp only [List.map_toArray, List.map_cons, List.map_nil]; rfl) ?_; refine (laws_toStore.calls ht202001.out (HS.ro gp1) lp1 (HS.ro gp2) lp2 (HS.ro gp3) lp3).mono ?_; rintro _ wt202001 ⟨v202002, v202003, v202004, rfl, HQ⟩; refine ⟨_, rfl, ?_⟩; replace HS := HS.call HQ; clear HQ; (try clear F); obtain ⟨B202002, d202002, rfl, m202002⟩ := HS.form 11 rfl; obtain ⟨B202003, d202003, rfl, m202003⟩ := HS.form 12 rfl; obtain ⟨B202004, d202004, rfl, m202004⟩ := HS.form 13 rfl
         replace HS : Hp noFP w _ [.box g3 [.slice Ap1 a1.f0.length cp1, .slice Ap2 a1.f1.length cp2, .slice Ap3 a1.f2.length cp3] 76, .own (Zd.slice 148 q148) t101001 [.slice B101002 t101001.length d101002], .own (Zd.slice 94 q94) t103001.f0 [.slice B103002 t103001.f0.length d103002], .own (Zd.slice 209 q209) t103001.f1 [.slice B103003 t103001.f1.length d103003], .own (Zd.slice 211 q211) t103001.f2 [.slice B103004 t103001.f2.length d103004], .own (Zd.slice 148 q148) t12 [.slice B13 t12.length d13], .own (Zd.slice 94 q94) t15.f0 [.slice B16 t15.f0.length d16], .own (Zd.slice 209 q209) t15.f1 [.slice B17 t15.f1.length d17], .own (Zd.slice 211 q211) t15.f2 [.slice B18 t15.f2.length d18], .box g8 [.slice B16 t15.f0.length d16, .slice B17 t15.f1.length d17, .slice B18 t15.f2.length d18] 85, .own (Zd.slice 148 q148) t27 [.slice B28 t27.length d28], .own (Zd.slice 94 q94) t202001.f0 [.slice B202002 t202001.f0.length d202002], .own (Zd.slice 209 q209) t202001.f1 [.slice B202003 t202001.f1.length d202003], .own (Zd.slice 211 q211) t202001.f2 [.slice B202004 t202001.f2.length d202004]] := HS
         have F := HS.boxes; simp only [boxFacts, wrt, clr0, clr1, List.cons_append, List.nil_append, List.append_nil, List.set_cons_zero, List.set_cons_succ, and_true] at F
         refine hK.out _ _ ⟨_, HS⟩ (fun HH => ?_)
         clear hK K
         refine norm_ (a' := ?_) ?_ ?_
         rotate_left
         · show Act.put _ (some 42) _ = _; simp only [Act.put, List.setIfInBounds_toArray, List.set_cons_zero, List.set_cons_succ, i64_w, i32_w, c32]; rfl
         refine dr_one 3 HT rfl (by kernel_rfl) (by decide) (fun K hK => ?_)
         refine goes_ Try.func49 (by kernel_rfl) rfl #[.agg #[.slice B16 t15.f0.length d16, .slice B17 t15.f1.length d17, .slice B18 t15.f2.length d18], .agg #[.slice B202002 t202001.f0.length d202002, .slice B202003 t202001.f1.length d202003, .slice B202004 t202001.f2.length d202004]] (by rfl) rfl rfl (by simp only [List.map_toArray, List.map_cons, List.map_nil]; rfl) ?_; refine (laws_eqStore.calls ht203001.out (HS.rd 6 rfl) m16 (HS.rd 7 rfl) m17 (HS.rd 8 rfl) m18 (HS.rd 11 rfl) m202002 (HS.rd 12 rfl) m202003 (HS.rd 13 rfl) m202004).mono ?_; rintro _ wt203001 ⟨rfl, HQ⟩; refine ⟨_, rfl, ?_⟩; replace HS := HS.call HQ; clear HQ; (try clear F)
         replace HS : Hp noFP w _ [.box g3 [.slice Ap1 a1.f0.length cp1, .slice Ap2 a1.f1.length cp2, .slice Ap3 a1.f2.length cp3] 76, .own (Zd.slice 148 q148) t101001 [.slice B101002 t101001.length d101002], .own (Zd.slice 94 q94) t103001.f0 [.slice B103002 t103001.f0.length d103002], .own (Zd.slice 209 q209) t103001.f1 [.slice B103003 t103001.f1.length d103003], .own (Zd.slice 211 q211) t103001.f2 [.slice B103004 t103001.f2.length d103004], .own (Zd.slice 148 q148) t12 [.slice B13 t12.length d13], .own (Zd.slice 94 q94) t15.f0 [.slice B16 t15.f0.length d16], .own (Zd.slice 209 q209) t15.f1 [.slice B17 t15.f1.length d17], .own (Zd.slice 211 q211) t15.f2 [.slice B18 t15.f2.length d18], .box g8 [.slice B16 t15.f0.length d16, .slice B17 t15.f1.length d17, .slice B18 t15.f2.length d18] 85, .own (Zd.slice 148 q148) t27 [.slice B28 t27.length d28], .own (Zd.slice 94 q94) t202001.f0 [.slice B202002 t202001.f0.length d202002], .own (Zd.slice 209 q209) t202001.f1 [.slice B202003 t202001.f1.length d202003], .own (Zd.slice 211 q211) t202001.f2 [.slice B202004 t202001.f2.length d202004]] := HS
         have F := HS.boxes; simp only [boxFacts, wrt, clr0, clr1, List.cons_append, List.nil_append, List.append_nil, List.set_cons_zero, List.set_cons_succ, and_true] at F
         refine hK.out _ _ ⟨_, HS⟩ (fun HH => ?_)
         clear hK K
         refine norm_ (a' := ?_) ?_ ?_
         rotate_left
         · show Act.put _ (some 43) _ = _; simp only [Act.put, List.setIfInBounds_toArray, List.set_cons_zero, List.set_cons_succ, i64_w, i32_w, c32]; rfl
         refine dr_pure 4 (some 44) HT (v := ?_) (a' := ?_) rfl rfl (by kernel_rfl) (fun _ _ _ h => h) (.inl ⟨by rfl, ?_⟩) ?_ ?_
         rotate_left
         · intro w'; go_simp; with_reducible rfl
         rotate_left
         · simp only [Act.put, List.setIfInBounds_toArray, List.set_cons_zero, List.set_cons_succ, i64_w, i32_w]; rfl
         refine done_ (done_of HT.out (by kernel_rfl)) ?_
         by_cases c36 : t203001 = true
         · replace H := zpos c36 H
           (try simp only [c36, decide_true, decide_false, Bool.not_true, Bool.not_false])
           obtain rfl := zsome H
           go_wp2
           go_ret
           exact ⟨rfl, HS.pick [] (by decide) (by rfl)⟩
         · replace H := zneg c36 H
           replace c36 := eq_false_of_ne_true c36
           (try simp only [c36, decide_true, decide_false, Bool.not_true, Bool.not_false])
           obtain rfl := zsome H
           go_wp2
           go_ret
           exact ⟨rfl, HS.pick [] (by decide) (by rfl)⟩
       · replace H := zneg c32 H
         replace c32 := eq_false_of_ne_true c32
         (try simp only [c32, decide_true, decide_false, Bool.not_true, Bool.not_false])
         obtain rfl := zsome H
         go_wp2
         go_ret
         exact ⟨rfl, HS.pick [] (by decide) (by rfl)⟩
     · replace H := zneg c26 H
       have c26a := beq_eq_false_iff_ne.mpr c26
       have c26b := bne_iff_ne.mpr c26
       clear c26
       (try simp only [c26a, c26b, decide_true, decide_false, Bool.not_true, Bool.not_false])
       obtain rfl := zsome H
       go_wp2
       go_ret
       exact ⟨rfl, HS.pick [] (by decide) (by rfl)⟩
end Go.Proofs.Ytdcjcanobiohnaa.F
