import Derived.Test.YtfeebnbookfpmaaZT
import Derived.Test.YtfeebnbookfpmaaZf29
import Derived.Test.YtfeebnbookfpmaaZf31
import Derived.Test.YtfeebnbookfpmaaZf33
import Derived.Test.YtfeebnbookfpmaaZf49
import Derived.Test.YtfeebnbookfpmaaZf51
import Derived.Test.YtfeebnbookfpmaaZf53
import Derived.Test.YtfeebnbookfpmaaZf54
import Derived.Test.YtfeebnbookfpmaaZf55
import Derived.Test.YtfeebnbookfpmaaZf56
import Derived.Test.YtfeebnbookfpmaaZf57
import Derived.Test.YtfeebnbookfpmaaZf58
namespace Go.Proofs.Ytfeebnbookfpmaa.F
open Go.RowKit Go.Proofs.YtfeebnbookfpmaaW.PrintWords Go.Proofs.YtfeebnbookfpmaaW.PrintLast Go.Proofs.YtfeebnbookfpmaaW.PrintMore Go.Proofs.Ytfeebnbookfpmaa.Z
attribute [local go_sem] max2_int min2_int max_two min_two max_three min_three max_four min_four
set_option linter.unusedVariables false
set_option linter.unusedSimpArgs false
set_option maxRecDepth 100000
/-! ### laws_FnExactDeltaOf: function 11 -/
def laws_FnExactDeltaOf.f (k : Nat) (a0 : (List S49)) (a1 : S49) : Option (Bool) := ((laws_szCrlS.f k a0 1048576).bind fun t3 => (if t3 < 0 then (some true) else ((laws_szCrl.f a1 t3).bind fun t6 => (if t6 < 0 then (some true) else ((laws_toCrlS.f k a0).bind fun t101001 => ((laws_toCrl.f k a1).bind fun t103001 => ((spec_DeltaOf.f k t101001 t103001).bind fun t104001 => ((laws_toCrlS.f k a0).bind fun t12 => ((laws_toCrl.f k a1).bind fun t15 => ((impl_DeltaOf.f k t12 t15).bind fun t22 => ((laws_eqCrl.f k t22.1 t104001.1).bind fun t29 => (if t29 = true then (if t22.2 = t104001.2 then ((laws_toCrlS.f k a0).bind fun t33 => ((laws_eqCrlS.f k t12 t33).bind fun t36 => (if t36 = true then ((laws_toCrl.f k a1).bind fun t202001 => ((laws_eqCrl.f k t15 t202001).bind fun t203001 => (if t203001 = true then ((laws_markCrlS.f k t12 1).bind fun t43 => ((laws_markCrl.f k t15 t43.1).bind fun t45 => (if t45.1 < 0 then (some false) else ((laws_eqCrl.f k t22.1 t104001.1).bind fun t48 => (if t48 = true then ((laws_markCrl.f k t22.1 1).bind fun t51 => ((laws_heldCrl.f k (⟨t22.1.f0, t22.1.f1, t22.1.f2, t22.1.f3, t22.1.f4, t51.2, t22.1.f6⟩ : S54) 1).bind fun t53 => (if t53 < 0 then (some false) else (if t53 = t51.1 then ((laws_toCrlS.f k a0).bind fun t301001 => ((laws_toCrl.f k a1).bind fun t303001 => ((impl_DeltaOf.f k t301001 t303001).bind fun t304001 => ((laws_eqCrl.f k t304001.1 t104001.1).bind fun t60 => (if t60 = true then (if t304001.2 = t104001.2 then ((laws_heldCrl.f k (⟨t22.1.f0, t22.1.f1, t22.1.f2, t22.1.f3, t22.1.f4, t51.2, t22.1.f6⟩ : S54) 1).bind fun t64 => (if t64 < 0 then (some false) else (if t64 = t51.1 then (some true) else (some false)))) else (some false)) else (some false)))))) else (some false))))) else (some false)))))) else (some false)))) else (some false)))) else (some false)) else (some false)))))))))))))
def laws_FnExactDeltaOf.T8 : Bool × List (List Nat × List Nat) := (true, [([], []), ([0], [0]), ([], []), ([2, 1], [2]), ([1, 3, 3], [1, 3]), ([4], [4]), ([5], [5]), ([5], [5]), ([], []), ([8, 6, 4, 0, 1, 2, 3, 4, 5, 6, 8], [6, 8]), ([7, 9, 0, 1, 2, 3, 4, 5, 6, 7, 8, 9], [7])])
theorem laws_FnExactDeltaOf.tT8 : rtab .any (opsOf Try.f11 8) = laws_FnExactDeltaOf.T8 := by kernel_rfl
def laws_FnExactDeltaOf.T16 : Bool × List (List Nat × List Nat) := (true, [([], []), ([], []), ([1], [1]), ([0, 2, 2], [0, 2]), ([3], [3])])
theorem laws_FnExactDeltaOf.tT16 : rtab .any (opsOf Try.f11 16) = laws_FnExactDeltaOf.T16 := by kernel_rfl
def laws_FnExactDeltaOf.T31 : Bool × List (List Nat × List Nat) := (true, [([], []), ([0], [0]), ([], []), ([2, 1], [2]), ([1, 3, 3], [1, 3]), ([4], [4]), ([5], [5]), ([5], [5]), ([], []), ([8, 6, 4, 0, 1, 2, 3, 4, 5, 6, 8], [6, 8]), ([7, 9, 0, 1, 2, 3, 4, 5, 6, 7, 8, 9], [7])])
theorem laws_FnExactDeltaOf.tT31 : rtab .any (opsOf Try.f11 31) = laws_FnExactDeltaOf.T31 := by kernel_rfl
set_option maxHeartbeats 16000000 in
theorem laws_FnExactDeltaOf.calls {k : Nat} {a0 : (List S49)} {a1 : S49} {Ap0 : Option Addr} {np0 cp0 : Nat} {Ap1 : Option Addr} {np1 cp1 : Nat} {r : Bool} {w : World} (h : laws_FnExactDeltaOf.f k a0 a1 = some r) (gp0 : k49.C w Ap0 np0 a0) (lp0 : np0 ≤ cp0) (gp1 : k152.C w Ap1 np1 a1.f5) (lp1 : np1 ≤ cp1) :
    Calls Try.prog 11 #[.slice Ap0 np0 cp0, .agg #[.string a1.f0, .int .i64 a1.f1, .int .i64 a1.f2, .int .i64 a1.f3, .int .i64 a1.f4, .slice Ap1 np1 cp1, .string a1.f6]] w (fun e w' => e = .returned (.bool r) ∧ Hp noFP w w' []) := by
 obtain rfl := C_len gp0
 obtain rfl := C_len gp1
 have HS := Hp.start w
 have H := Aside0.mk h
 clear h
 unfold laws_FnExactDeltaOf.f at H
 go_enter Try.func11, Try.ntmps11
 obtain ⟨t3, ht3, H⟩ := zbind H
 go_upto_if 21 with (first | ((with_reducible refine gate_dst (N := 3) rfl ?_); refine ev_box rfl HS (by first | (go_simp; done) | (go_simp; rfl)) rfl ?_; clear HS; (try clear F); intro g3 w3 HS; have F := HS.boxes; simp only [boxFacts, wrt, clr0, clr1, List.cons_append, List.nil_append, List.append_nil, List.set_cons_zero, List.set_cons_succ, and_true] at F) | ((with_reducible refine gate_dst (N := 19) rfl ?_); refine ev_call rfl Try.func49 (by kernel_rfl) rfl #[.slice Ap0 a0.length cp0, .int .i64 1048576] rfl (by simp only [List.map_toArray, List.map_cons, List.map_nil]; rfl) ?_; refine (laws_szCrlS.calls ht3.out (HS.ro gp0) lp0).mono ?_; rintro _ wt3 ⟨rfl, HQ⟩; refine ⟨_, rfl, ?_⟩; replace HS := HS.call HQ; clear HQ; (try clear F); have F := HS.boxes; simp only [boxFacts, wrt, clr0, clr1, List.cons_append, List.nil_append, List.append_nil, List.set_cons_zero, List.set_cons_succ, and_true] at F))
 by_cases c5 : t3 < 0
 · replace H := zpos c5 H
   replace c5 := eq_true c5
   (try simp only [c5, decide_true, decide_false, Bool.not_true, Bool.not_false])
   obtain rfl := zsome H
   go_wp2
   go_ret
   exact ⟨rfl, HS.pick [] (by decide) (by rfl)⟩
 · replace H := zneg c5 H
   replace c5 := eq_false c5
   (try simp only [c5, decide_true, decide_false, Bool.not_true, Bool.not_false])
   obtain ⟨t6, ht6, H⟩ := zbind H
   go_upto_if 26 with (first | ((with_reducible refine gate_dst (N := 24) rfl ?_); refine ev_call rfl Try.func29 (by kernel_rfl) rfl #[.agg #[.string a1.f0, .int .i64 a1.f1, .int .i64 a1.f2, .int .i64 a1.f3, .int .i64 a1.f4, .slice Ap1 a1.f5.length cp1, .string a1.f6], .int .i64 t3] rfl (by simp only [List.map_toArray, List.map_cons, List.map_nil]; rfl) ?_; refine (laws_szCrl.calls ht6.out (HS.ro gp1) lp1).mono ?_; rintro _ wt6 ⟨rfl, HQ⟩; refine ⟨_, rfl, ?_⟩; replace HS := HS.call HQ; clear HQ; (try clear F); have F := HS.boxes; simp only [boxFacts, wrt, clr0, clr1, List.cons_append, List.nil_append, List.append_nil, List.set_cons_zero, List.set_cons_succ, and_true] at F))
   by_cases c8 : t6 < 0
   · replace H := zpos c8 H
     replace c8 := eq_true c8
     (try simp only [c8, decide_true, decide_false, Bool.not_true, Bool.not_false])
     obtain rfl := zsome H
     go_wp2
     go_ret
     exact ⟨rfl, HS.pick [] (by decide) (by rfl)⟩
   · replace H := zneg c8 H
     replace c8 := eq_false c8
     (try simp only [c8, decide_true, decide_false, Bool.not_true, Bool.not_false])
     (try go_wp2)
     obtain ⟨t101001, ht101001, H⟩ := zbind H
     obtain ⟨t103001, ht103001, H⟩ := zbind H
     obtain ⟨t104001, ht104001, H⟩ := zbind H
     refine dr_start [9] HS #[false, false, false, false, false, false, false, false, false, false, false] (by kernel_rfl) rfl rfl laws_FnExactDeltaOf.tT8 (fun w10 HT HS HH => ?_)
     (try clear F)
     refine join_ 0 #[true, true, true, true, true, true, true, true, true, true, true] (fun ((v101002, v103002, v104002, g6) : Value × Value × Value × Nat) => ([(28, .slice Ap0 a0.length cp0), (29, v101002), (30, .agg #[.string a1.f0, .int .i64 a1.f1, .int .i64 a1.f2, .int .i64 a1.f3, .int .i64 a1.f4, .slice Ap1 a1.f5.length cp1, .string a1.f6]), (31, .agg #[.string t103001.f0, .int .i64 t103001.f1, .int .i64 t103001.f2, .int .i64 t103001.f3, .int .i64 t103001.f4, v103002, .string t103001.f6]), (32, .tuple #[.agg #[.string t104001.1.f0, .int .i64 t104001.1.f1, .int .i64 t104001.1.f2, .int .i64 t104001.1.f3, .int .i64 t104001.1.f4, v104002, .string t104001.1.f6], .bool t104001.2]), (27, .tuple #[.agg #[.string t104001.1.f0, .int .i64 t104001.1.f1, .int .i64 t104001.1.f2, .int .i64 t104001.1.f3, .int .i64 t104001.1.f4, v104002, .string t104001.1.f6], .bool t104001.2]), (33, .agg #[.string t104001.1.f0, .int .i64 t104001.1.f1, .int .i64 t104001.1.f2, .int .i64 t104001.1.f3, .int .i64 t104001.1.f4, v104002, .string t104001.1.f6]), (34, .bool t104001.2), (6, .pointer (some ⟨g6, 0, none⟩)), (7, .bool t104001.2)] : List (Tmp × Value))) (fun ((v101002, v103002, v104002, g6) : Value × Value × Value × Nat) w' => Hp noFP w w' [.box g3 [.string a1.f0, .int .i64 a1.f1, .int .i64 a1.f2, .int .i64 a1.f3, .int .i64 a1.f4, .slice Ap1 a1.f5.length cp1, .string a1.f6] 49, .own (Zd.slice 54 q54) t101001 [v101002], .own (Zd.slice 119 q119) t103001.f5 [v103002], .own (Zd.slice 119 q119) t104001.1.f5 [v104002], .box g6 [.string t104001.1.f0, .int .i64 t104001.1.f1, .int .i64 t104001.1.f2, .int .i64 t104001.1.f3, .int .i64 t104001.1.f4, v104002, .string t104001.1.f6] 54]) ?_ ?_
     rotate_left
     · intro hJ
       refine dr_pure 0 (some 28) HT (v := ?_) (a' := ?_) rfl rfl (by kernel_rfl) (fun _ _ _ h => h) (.inl ⟨by rfl, ?_⟩) ?_ ?_
       rotate_left
       · intro w'; go_simp; with_reducible rfl
       rotate_left
       · simp only [Act.put, List.setIfInBounds_toArray, List.set_cons_zero, List.set_cons_succ, i64_w, i32_w]; rfl
       refine dr_take 2 (some 30) HT HH (v := ?_) (a' := ?_) rfl rfl (by kernel_rfl) (fun _ _ _ h => h) (.inl ⟨by rfl, ?_⟩) ?_ ?_
       rotate_left
       · rintro w' ⟨rs', HS'⟩; have F := HS'.boxes; simp only [boxFacts, wrt, clr0, clr1, List.cons_append, List.nil_append, List.append_nil, List.set_cons_zero, List.set_cons_succ, and_true] at F; go_simp; with_reducible rfl
       rotate_left
       · simp only [Act.put, List.setIfInBounds_toArray, List.set_cons_zero, List.set_cons_succ, i64_w, i32_w]; rfl
       refine dr_any [1, 8] HT (by kernel_rfl) (by decide) (AllReadyL.cons rfl (by decide) (fun K hK => ?_) (AllReadyL.cons rfl (by decide) (fun K hK => ?_) AllReadyL.nil))
       · refine goes_ Try.func51 (by kernel_rfl) rfl #[.slice Ap0 a0.length cp0] (by rfl) rfl rfl (by simp only [List.map_toArray, List.map_cons, List.map_nil]; rfl) ?_; refine (laws_toCrlS.calls ht101001.out (HS.ro gp0) lp0).mono ?_; rintro _ wt101001 ⟨v101002, rfl, HQ⟩; refine ⟨_, rfl, ?_⟩; replace HS := HS.call HQ; clear HQ; (try clear F); obtain ⟨B101002, d101002, rfl, m101002⟩ := HS.form 1 rfl; have F := HS.boxes; simp only [boxFacts, wrt, clr0, clr1, List.cons_append, List.nil_append, List.append_nil, List.set_cons_zero, List.set_cons_succ, and_true] at F
         refine hK.out _ _ ⟨_, HS⟩ (fun HH => ?_)
         clear hK K
         refine norm_ (a' := ?_) ?_ ?_
         rotate_left
         · show Act.put _ (some 29) _ = _; simp only [Act.put, List.setIfInBounds_toArray, List.set_cons_zero, List.set_cons_succ, i64_w, i32_w]; rfl
         refine dr_any [3, 8] HT (by kernel_rfl) (by decide) (AllReadyL.cons rfl (by decide) (fun K hK => ?_) (AllReadyL.cons rfl (by decide) (fun K hK => ?_) AllReadyL.nil))
         · refine goes_ Try.func31 (by kernel_rfl) rfl #[.agg #[.string a1.f0, .int .i64 a1.f1, .int .i64 a1.f2, .int .i64 a1.f3, .int .i64 a1.f4, .slice Ap1 a1.f5.length cp1, .string a1.f6]] (by rfl) rfl rfl (by simp only [List.map_toArray, List.map_cons, List.map_nil]; rfl) ?_; refine (laws_toCrl.calls ht103001.out (HS.ro gp1) lp1).mono ?_; rintro _ wt103001 ⟨v103002, rfl, HQ⟩; refine ⟨_, rfl, ?_⟩; replace HS := HS.call HQ; clear HQ; (try clear F); obtain ⟨B103002, d103002, rfl, m103002⟩ := HS.form 2 rfl; have F := HS.boxes; simp only [boxFacts, wrt, clr0, clr1, List.cons_append, List.nil_append, List.append_nil, List.set_cons_zero, List.set_cons_succ, and_true] at F
           refine hK.out _ _ ⟨_, HS⟩ (fun HH => ?_)
           clear hK K
           refine norm_ (a' := ?_) ?_ ?_
           rotate_left
           · show Act.put _ (some 31) _ = _; simp only [Act.put, List.setIfInBounds_toArray, List.set_cons_zero, List.set_cons_succ, i64_w, i32_w]; rfl
           refine dr_any [4, 8] HT (by kernel_rfl) (by decide) (AllReadyL.cons rfl (by decide) (fun K hK => ?_) (AllReadyL.cons rfl (by decide) (fun K hK => ?_) AllReadyL.nil))
           · refine goes_ Try.func57 (by kernel_rfl) rfl #[.slice B101002 t101001.length d101002, .agg #[.string t103001.f0, .int .i64 t103001.f1, .int .i64 t103001.f2, .int .i64 t103001.f3, .int .i64 t103001.f4, .slice B103002 t103001.f5.length d103002, .string t103001.f6]] (by rfl) rfl rfl (by simp only [List.map_toArray, List.map_cons, List.map_nil]; rfl) ?_; refine (spec_DeltaOf.calls ht104001.out (HS.rd 1 rfl) m101002 (HS.rd 2 rfl) m103002).mono ?_; rintro _ wt104001 ⟨v104002, rfl, HQ⟩; refine ⟨_, rfl, ?_⟩; replace HS := HS.call HQ; clear HQ; (try clear F); obtain ⟨B104002, d104002, rfl, m104002⟩ := HS.form 3 rfl; have F := HS.boxes; simp only [boxFacts, wrt, clr0, clr1, List.cons_append, List.nil_append, List.append_nil, List.set_cons_zero, List.set_cons_succ, and_true] at F
             refine hK.out _ _ ⟨_, HS⟩ (fun HH => ?_)
             clear hK K
             refine norm_ (a' := ?_) ?_ ?_
             rotate_left
             · show Act.put _ (some 32) _ = _; simp only [Act.put, List.setIfInBounds_toArray, List.set_cons_zero, List.set_cons_succ, i64_w, i32_w]; rfl
             refine dr_pure 5 (some 27) HT (v := ?_) (a' := ?_) rfl rfl (by kernel_rfl) (fun _ _ _ h => h) (.inl ⟨by rfl, ?_⟩) ?_ ?_
             rotate_left
             · intro w'; go_simp; with_reducible rfl
             rotate_left
             · simp only [Act.put, List.setIfInBounds_toArray, List.set_cons_zero, List.set_cons_succ, i64_w, i32_w]; rfl
             refine dr_pure 6 (some 33) HT (v := ?_) (a' := ?_) rfl rfl (by kernel_rfl) (fun _ _ _ h => h) (.inl ⟨by rfl, ?_⟩) ?_ ?_
             rotate_left
             · intro w'; go_simp; with_reducible rfl
             rotate_left
             · simp only [Act.put, List.setIfInBounds_toArray, List.set_cons_zero, List.set_cons_succ, i64_w, i32_w]; rfl
             refine dr_pure 7 (some 34) HT (v := ?_) (a' := ?_) rfl rfl (by kernel_rfl) (fun _ _ _ h => h) (.inl ⟨by rfl, ?_⟩) ?_ ?_
             rotate_left
             · intro w'; go_simp; with_reducible rfl
             rotate_left
             · simp only [Act.put, List.setIfInBounds_toArray, List.set_cons_zero, List.set_cons_succ, i64_w, i32_w]; rfl
             refine dr_one 8 HT rfl (by kernel_rfl) (by decide) (fun K hK => ?_)
             refine if_wp (by rfl) ?_; refine wp_box HS (by first | (go_simp; done) | (go_simp; rfl)) rfl ?_; clear HS; (try clear F); intro g6 w6 HS; have F := HS.boxes; simp only [boxFacts, wrt, clr0, clr1, List.cons_append, List.nil_append, List.append_nil, List.set_cons_zero, List.set_cons_succ, and_true] at F
             refine hK.out _ _ ⟨_, HS⟩ (fun HH => ?_)
             clear hK K
             refine norm_ (a' := ?_) ?_ ?_
             rotate_left
             · show Act.put _ (some 6) _ = _; simp only [Act.put, List.setIfInBounds_toArray, List.set_cons_zero, List.set_cons_succ, i64_w, i32_w]; rfl
             refine dr_last 9 HT rfl (by kernel_rfl) (by decide) (fun K hK => ?_)
             refine if_wp (by rfl) ?_; refine wp_store 4 0 HS (seg := [.string t104001.1.f0, .int .i64 t104001.1.f1, .int .i64 t104001.1.f2, .int .i64 t104001.1.f3, .int .i64 t104001.1.f4, .slice B104002 t104001.1.f5.length d104002, .string t104001.1.f6]) rfl rfl rfl rfl rfl rfl (by kernel_rfl) (by simp [wrt]) (by simp [Value.oneCell']) ?_; clear HS; (try clear F); intro w109001 HS; have F := HS.boxes; simp only [boxFacts, wrt, clr0, clr1, List.cons_append, List.nil_append, List.append_nil, List.set_cons_zero, List.set_cons_succ, and_true] at F
             refine hK.out _ _ ?_
             clear hK K
             refine dr_pure 10 (some 7) HT (v := ?_) (a' := ?_) rfl rfl (by kernel_rfl) (fun _ _ _ h => h) (.inl ⟨by rfl, ?_⟩) ?_ ?_
             rotate_left
             · intro w'; go_simp; with_reducible rfl
             rotate_left
             · simp only [Act.put, List.setIfInBounds_toArray, List.set_cons_zero, List.set_cons_succ, i64_w, i32_w]; rfl
             refine norm_ ?_ (hJ (.slice B101002 t101001.length d101002, .slice B103002 t103001.f5.length d103002, .slice B104002 t104001.1.f5.length d104002, g6) _ (HS.arr [some 0, some 1, some 2, some 3, some 4] (by decide)))
             simp only [putAll, Act.put, List.setIfInBounds_toArray, List.set_cons_zero, List.set_cons_succ, i64_w, i32_w]
             (try rfl)
           · refine if_wp (by rfl) ?_; refine wp_box HS (by first | (go_simp; done) | (go_simp; rfl)) rfl ?_; clear HS; (try clear F); intro g6 w6 HS; have F := HS.boxes; simp only [boxFacts, wrt, clr0, clr1, List.cons_append, List.nil_append, List.append_nil, List.set_cons_zero, List.set_cons_succ, and_true] at F
             refine hK.out _ _ ⟨_, HS⟩ (fun HH => ?_)
             clear hK K
             refine norm_ (a' := ?_) ?_ ?_
             rotate_left
             · show Act.put _ (some 6) _ = _; simp only [Act.put, List.setIfInBounds_toArray, List.set_cons_zero, List.set_cons_succ, i64_w, i32_w]; rfl
             refine dr_one 4 HT rfl (by kernel_rfl) (by decide) (fun K hK => ?_)
             refine goes_ Try.func57 (by kernel_rfl) rfl #[.slice B101002 t101001.length d101002, .agg #[.string t103001.f0, .int .i64 t103001.f1, .int .i64 t103001.f2, .int .i64 t103001.f3, .int .i64 t103001.f4, .slice B103002 t103001.f5.length d103002, .string t103001.f6]] (by rfl) rfl rfl (by simp only [List.map_toArray, List.map_cons, List.map_nil]; rfl) ?_; refine (spec_DeltaOf.calls ht104001.out (HS.rd 1 rfl) m101002 (HS.rd 2 rfl) m103002).mono ?_; rintro _ wt104001 ⟨v104002, rfl, HQ⟩; refine ⟨_, rfl, ?_⟩; replace HS := HS.call HQ; clear HQ; (try clear F); obtain ⟨B104002, d104002, rfl, m104002⟩ := HS.form 4 rfl; have F := HS.boxes; simp only [boxFacts, wrt, clr0, clr1, List.cons_append, List.nil_append, List.append_nil, List.set_cons_zero, List.set_cons_succ, and_true] at F
             refine hK.out _ _ ⟨_, HS⟩ (fun HH => ?_)
             clear hK K
             refine norm_ (a' := ?_) ?_ ?_
             rotate_left
             · show Act.put _ (some 32) _ = _; simp only [Act.put, List.setIfInBounds_toArray, List.set_cons_zero, List.set_cons_succ, i64_w, i32_w]; rfl
             refine dr_pure 5 (some 27) HT (v := ?_) (a' := ?_) rfl rfl (by kernel_rfl) (fun _ _ _ h => h) (.inl ⟨by rfl, ?_⟩) ?_ ?_
             rotate_left
             · intro w'; go_simp; with_reducible rfl
             rotate_left
             · simp only [Act.put, List.setIfInBounds_toArray, List.set_cons_zero, List.set_cons_succ, i64_w, i32_w]; rfl
             refine dr_pure 6 (some 33) HT (v := ?_) (a' := ?_) rfl rfl (by kernel_rfl) (fun _ _ _ h => h) (.inl ⟨by rfl, ?_⟩) ?_ ?_
             rotate_left
             · intro w'; go_simp; with_reducible rfl
             rotate_left
             · simp only [Act.put, List.setIfInBounds_toArray, List.set_cons_zero, List.set_cons_succ, i64_w, i32_w]; rfl
             refine dr_pure 7 (some 34) HT (v := ?_) (a' := ?_) rfl rfl (by kernel_rfl) (fun _ _ _ h => h) (.inl ⟨by rfl, ?_⟩) ?_ ?_
             rotate_left
             · intro w'; go_simp; with_reducible rfl
             rotate_left
             · simp only [Act.put, List.setIfInBounds_toArray, List.set_cons_zero, List.set_cons_succ, i64_w, i32_w]; rfl
             refine dr_last 9 HT rfl (by kernel_rfl) (by decide) (fun K hK => ?_)
             refine if_wp (by rfl) ?_; refine wp_store 3 0 HS (seg := [.string t104001.1.f0, .int .i64 t104001.1.f1, .int .i64 t104001.1.f2, .int .i64 t104001.1.f3, .int .i64 t104001.1.f4, .slice B104002 t104001.1.f5.length d104002, .string t104001.1.f6]) rfl rfl rfl rfl rfl rfl (by kernel_rfl) (by simp [wrt]) (by simp [Value.oneCell']) ?_; clear HS; (try clear F); intro w109001 HS; have F := HS.boxes; simp only [boxFacts, wrt, clr0, clr1, List.cons_append, List.nil_append, List.append_nil, List.set_cons_zero, List.set_cons_succ, and_true] at F
             refine hK.out _ _ ?_
             clear hK K
             refine dr_pure 10 (some 7) HT (v := ?_) (a' := ?_) rfl rfl (by kernel_rfl) (fun _ _ _ h => h) (.inl ⟨by rfl, ?_⟩) ?_ ?_
             rotate_left
             · intro w'; go_simp; with_reducible rfl
             rotate_left
             · simp only [Act.put, List.setIfInBounds_toArray, List.set_cons_zero, List.set_cons_succ, i64_w, i32_w]; rfl
             refine norm_ ?_ (hJ (.slice B101002 t101001.length d101002, .slice B103002 t103001.f5.length d103002, .slice B104002 t104001.1.f5.length d104002, g6) _ (HS.arr [some 0, some 1, some 2, some 4, some 3] (by decide)))
             simp only [putAll, Act.put, List.setIfInBounds_toArray, List.set_cons_zero, List.set_cons_succ, i64_w, i32_w]
             (try rfl)
         · refine if_wp (by rfl) ?_; refine wp_box HS (by first | (go_simp; done) | (go_simp; rfl)) rfl ?_; clear HS; (try clear F); intro g6 w6 HS; have F := HS.boxes; simp only [boxFacts, wrt, clr0, clr1, List.cons_append, List.nil_append, List.append_nil, List.set_cons_zero, List.set_cons_succ, and_true] at F
           refine hK.out _ _ ⟨_, HS⟩ (fun HH => ?_)
           clear hK K
           refine norm_ (a' := ?_) ?_ ?_
           rotate_left
           · show Act.put _ (some 6) _ = _; simp only [Act.put, List.setIfInBounds_toArray, List.set_cons_zero, List.set_cons_succ, i64_w, i32_w]; rfl
           refine dr_one 3 HT rfl (by kernel_rfl) (by decide) (fun K hK => ?_)
           refine goes_ Try.func31 (by kernel_rfl) rfl #[.agg #[.string a1.f0, .int .i64 a1.f1, .int .i64 a1.f2, .int .i64 a1.f3, .int .i64 a1.f4, .slice Ap1 a1.f5.length cp1, .string a1.f6]] (by rfl) rfl rfl (by simp only [List.map_toArray, List.map_cons, List.map_nil]; rfl) ?_; refine (laws_toCrl.calls ht103001.out (HS.ro gp1) lp1).mono ?_; rintro _ wt103001 ⟨v103002, rfl, HQ⟩; refine ⟨_, rfl, ?_⟩; replace HS := HS.call HQ; clear HQ; (try clear F); obtain ⟨B103002, d103002, rfl, m103002⟩ := HS.form 3 rfl; have F := HS.boxes; simp only [boxFacts, wrt, clr0, clr1, List.cons_append, List.nil_append, List.append_nil, List.set_cons_zero, List.set_cons_succ, and_true] at F
           refine hK.out _ _ ⟨_, HS⟩ (fun HH => ?_)
           clear hK K
           refine norm_ (a' := ?_) ?_ ?_
           rotate_left
           · show Act.put _ (some 31) _ = _; simp only [Act.put, List.setIfInBounds_toArray, List.set_cons_zero, List.set_cons_succ, i64_w, i32_w]; rfl
           refine dr_one 4 HT rfl (by kernel_rfl) (by decide) (fun K hK => ?_)
           refine goes_ Try.func57 (by kernel_rfl) rfl #[.slice B101002 t101001.length d101002, .agg #[.string t103001.f0, .int .i64 t103001.f1, .int .i64 t103001.f2, .int .i64 t103001.f3, .int .i64 t103001.f4, .slice B103002 t103001.f5.length d103002, .string t103001.f6]] (by rfl) rfl rfl (by simp only [List.map_toArray, List.map_cons, List.map_nil]; rfl) ?_; refine (spec_DeltaOf.calls ht104001.out (HS.rd 1 rfl) m101002 (HS.rd 3 rfl) m103002).mono ?_; rintro _ wt104001 ⟨v104002, rfl, HQ⟩; refine ⟨_, rfl, ?_⟩; replace HS := HS.call HQ; clear HQ; (try clear F); obtain ⟨B104002, d104002, rfl, m104002⟩ := HS.form 4 rfl; have F := HS.boxes; simp only [boxFacts, wrt, clr0, clr1, List.cons_append, List.nil_append, List.append_nil, List.set_cons_zero, List.set_cons_succ, and_true] at F
           refine hK.out _ _ ⟨_, HS⟩ (fun HH => ?_)
           clear hK K
           refine norm_ (a' := ?_) ?_ ?_
           rotate_left
           · show Act.put _ (some 32) _ = _; simp only [Act.put, List.setIfInBounds_toArray, List.set_cons_zero, List.set_cons_succ, i64_w, i32_w]; rfl
           refine dr_pure 5 (some 27) HT (v := ?_) (a' := ?_) rfl rfl (by kernel_rfl) (fun _ _ _ h => h) (.inl ⟨by rfl, ?_⟩) ?_ ?_
           rotate_left
           · intro w'; go_simp; with_reducible rfl
           rotate_left
           · simp only [Act.put, List.setIfInBounds_toArray, List.set_cons_zero, List.set_cons_succ, i64_w, i32_w]; rfl
           refine dr_pure 6 (some 33) HT (v := ?_) (a' := ?_) rfl rfl (by kernel_rfl) (fun _ _ _ h => h) (.inl ⟨by rfl, ?_⟩) ?_ ?_
           rotate_left
           · intro w'; go_simp; with_reducible rfl
           rotate_left
           · simp only [Act.put, List.setIfInBounds_toArray, List.set_cons_zero, List.set_cons_succ, i64_w, i32_w]; rfl
           refine dr_pure 7 (some 34) HT (v := ?_) (a' := ?_) rfl rfl (by kernel_rfl) (fun _ _ _ h => h) (.inl ⟨by rfl, ?_⟩) ?_ ?_
           rotate_left
           · intro w'; go_simp; with_reducible rfl
           rotate_left
           · simp only [Act.put, List.setIfInBounds_toArray, List.set_cons_zero, List.set_cons_succ, i64_w, i32_w]; rfl
           refine dr_last 9 HT rfl (by kernel_rfl) (by decide) (fun K hK => ?_)
           refine if_wp (by rfl) ?_; refine wp_store 2 0 HS (seg := [.string t104001.1.f0, .int .i64 t104001.1.f1, .int .i64 t104001.1.f2, .int .i64 t104001.1.f3, .int .i64 t104001.1.f4, .slice B104002 t104001.1.f5.length d104002, .string t104001.1.f6]) rfl rfl rfl rfl rfl rfl (by kernel_rfl) (by simp [wrt]) (by simp [Value.oneCell']) ?_; clear HS; (try clear F); intro w109001 HS; have F := HS.boxes; simp only [boxFacts, wrt, clr0, clr1, List.cons_append, List.nil_append, List.append_nil, List.set_cons_zero, List.set_cons_succ, and_true] at F
           refine hK.out _ _ ?_
           clear hK K
           refine dr_pure 10 (some 7) HT (v := ?_) (a' := ?_) rfl rfl (by kernel_rfl) (fun _ _ _ h => h) (.inl ⟨by rfl, ?_⟩) ?_ ?_
           rotate_left
           · intro w'; go_simp; with_reducible rfl
           rotate_left
           · simp only [Act.put, List.setIfInBounds_toArray, List.set_cons_zero, List.set_cons_succ, i64_w, i32_w]; rfl
           refine norm_ ?_ (hJ (.slice B101002 t101001.length d101002, .slice B103002 t103001.f5.length d103002, .slice B104002 t104001.1.f5.length d104002, g6) _ (HS.arr [some 0, some 1, some 3, some 4, some 2] (by decide)))
           simp only [putAll, Act.put, List.setIfInBounds_toArray, List.set_cons_zero, List.set_cons_succ, i64_w, i32_w]
           (try rfl)
       · refine if_wp (by rfl) ?_; refine wp_box HS (by first | (go_simp; done) | (go_simp; rfl)) rfl ?_; clear HS; (try clear F); intro g6 w6 HS; have F := HS.boxes; simp only [boxFacts, wrt, clr0, clr1, List.cons_append, List.nil_append, List.append_nil, List.set_cons_zero, List.set_cons_succ, and_true] at F
         refine hK.out _ _ ⟨_, HS⟩ (fun HH => ?_)
         clear hK K
         refine norm_ (a' := ?_) ?_ ?_
         rotate_left
         · show Act.put _ (some 6) _ = _; simp only [Act.put, List.setIfInBounds_toArray, List.set_cons_zero, List.set_cons_succ, i64_w, i32_w]; rfl
         refine dr_one 1 HT rfl (by kernel_rfl) (by decide) (fun K hK => ?_)
         refine goes_ Try.func51 (by kernel_rfl) rfl #[.slice Ap0 a0.length cp0] (by rfl) rfl rfl (by simp only [List.map_toArray, List.map_cons, List.map_nil]; rfl) ?_; refine (laws_toCrlS.calls ht101001.out (HS.ro gp0) lp0).mono ?_; rintro _ wt101001 ⟨v101002, rfl, HQ⟩; refine ⟨_, rfl, ?_⟩; replace HS := HS.call HQ; clear HQ; (try clear F); obtain ⟨B101002, d101002, rfl, m101002⟩ := HS.form 2 rfl; have F := HS.boxes; simp only [boxFacts, wrt, clr0, clr1, List.cons_append, List.nil_append, List.append_nil, List.set_cons_zero, List.set_cons_succ, and_true] at F
         refine hK.out _ _ ⟨_, HS⟩ (fun HH => ?_)
         clear hK K
         refine norm_ (a' := ?_) ?_ ?_
         rotate_left
         · show Act.put _ (some 29) _ = _; simp only [Act.put, List.setIfInBounds_toArray, List.set_cons_zero, List.set_cons_succ, i64_w, i32_w]; rfl
         refine dr_one 3 HT rfl (by kernel_rfl) (by decide) (fun K hK => ?_)
         refine goes_ Try.func31 (by kernel_rfl) rfl #[.agg #[.string a1.f0, .int .i64 a1.f1, .int .i64 a1.f2, .int .i64 a1.f3, .int .i64 a1.f4, .slice Ap1 a1.f5.length cp1, .string a1.f6]] (by rfl) rfl rfl (by simp only [List.map_toArray, List.map_cons, List.map_nil]; rfl) ?_; refine (laws_toCrl.calls ht103001.out (HS.ro gp1) lp1).mono ?_; rintro _ wt103001 ⟨v103002, rfl, HQ⟩; refine ⟨_, rfl, ?_⟩; replace HS := HS.call HQ; clear HQ; (try clear F); obtain ⟨B103002, d103002, rfl, m103002⟩ := HS.form 3 rfl; have F := HS.boxes; simp only [boxFacts, wrt, clr0, clr1, List.cons_append, List.nil_append, List.append_nil, List.set_cons_zero, List.set_cons_succ, and_true] at F
         refine hK.out _ _ ⟨_, HS⟩ (fun HH => ?_)
         clear hK K
         refine norm_ (a' := ?_) ?_ ?_
         rotate_left
         · show Act.put _ (some 31) _ = _; simp only [Act.put, List.setIfInBounds_toArray, List.set_cons_zero, List.set_cons_succ, i64_w, i32_w]; rfl
         refine dr_one 4 HT rfl (by kernel_rfl) (by decide) (fun K hK => ?_)
         refine goes_ Try.func57 (by kernel_rfl) rfl #[.slice B101002 t101001.length d101002, .agg #[.string t103001.f0, .int .i64 t103001.f1, .int .i64 t103001.f2, .int .i64 t103001.f3, .int .i64 t103001.f4, .slice B103002 t103001.f5.length d103002, .string t103001.f6]] (by rfl) rfl rfl (by simp only [List.map_toArray, List.map_cons, List.map_nil]; rfl) ?_; refine (spec_DeltaOf.calls ht104001.out (HS.rd 2 rfl) m101002 (HS.rd 3 rfl) m103002).mono ?_; rintro _ wt104001 ⟨v104002, rfl, HQ⟩; refine ⟨_, rfl, ?_⟩; replace HS := HS.call HQ; clear HQ; (try clear F); obtain ⟨B104002, d104002, rfl, m104002⟩ := HS.form 4 rfl; have F := HS.boxes; simp only [boxFacts, wrt, clr0, clr1, List.cons_append, List.nil_append, List.append_nil, List.set_cons_zero, List.set_cons_succ, and_true] at F
         refine hK.out _ _ ⟨_, HS⟩ (fun HH => ?_)
         clear hK K
         refine norm_ (a' := ?_) ?_ ?_
         rotate_left
         · show Act.put _ (some 32) _ = _; simp only [Act.put, List.setIfInBounds_toArray, List.set_cons_zero, List.set_cons_succ, i64_w, i32_w]; rfl
         refine dr_pure 5 (some 27) HT (v := ?_) (a' := ?_) rfl rfl (by kernel_rfl) (fun _ _ _ h => h) (.inl ⟨by rfl, ?_⟩) ?_ ?_
         rotate_left
         · intro w'; go_simp; with_reducible rfl
         rotate_left
         · simp only [Act.put, List.setIfInBounds_toArray, List.set_cons_zero, List.set_cons_succ, i64_w, i32_w]; rfl
         refine dr_pure 6 (some 33) HT (v := ?_) (a' := ?_) rfl rfl (by kernel_rfl) (fun _ _ _ h => h) (.inl ⟨by rfl, ?_⟩) ?_ ?_
         rotate_left
         · intro w'; go_simp; with_reducible rfl
         rotate_left
         · simp only [Act.put, List.setIfInBounds_toArray, List.set_cons_zero, List.set_cons_succ, i64_w, i32_w]; rfl
         refine dr_pure 7 (some 34) HT (v := ?_) (a' := ?_) rfl rfl (by kernel_rfl) (fun _ _ _ h => h) (.inl ⟨by rfl, ?_⟩) ?_ ?_
         rotate_left
         · intro w'; go_simp; with_reducible rfl
         rotate_left
         · simp only [Act.put, List.setIfInBounds_toArray, List.set_cons_zero, List.set_cons_succ, i64_w, i32_w]; rfl
         refine dr_last 9 HT rfl (by kernel_rfl) (by decide) (fun K hK => ?_)
         refine if_wp (by rfl) ?_; refine wp_store 1 0 HS (seg := [.string t104001.1.f0, .int .i64 t104001.1.f1, .int .i64 t104001.1.f2, .int .i64 t104001.1.f3, .int .i64 t104001.1.f4, .slice B104002 t104001.1.f5.length d104002, .string t104001.1.f6]) rfl rfl rfl rfl rfl rfl (by kernel_rfl) (by simp [wrt]) (by simp [Value.oneCell']) ?_; clear HS; (try clear F); intro w109001 HS; have F := HS.boxes; simp only [boxFacts, wrt, clr0, clr1, List.cons_append, List.nil_append, List.append_nil, List.set_cons_zero, List.set_cons_succ, and_true] at F
         refine hK.out _ _ ?_
         clear hK K
         refine dr_pure 10 (some 7) HT (v := ?_) (a' := ?_) rfl rfl (by kernel_rfl) (fun _ _ _ h => h) (.inl ⟨by rfl, ?_⟩) ?_ ?_
         rotate_left
         · intro w'; go_simp; with_reducible rfl
         rotate_left
         · simp only [Act.put, List.setIfInBounds_toArray, List.set_cons_zero, List.set_cons_succ, i64_w, i32_w]; rfl
         refine norm_ ?_ (hJ (.slice B101002 t101001.length d101002, .slice B103002 t103001.f5.length d103002, .slice B104002 t104001.1.f5.length d104002, g6) _ (HS.arr [some 0, some 2, some 3, some 4, some 1] (by decide)))
         simp only [putAll, Act.put, List.setIfInBounds_toArray, List.set_cons_zero, List.set_cons_succ, i64_w, i32_w]
         (try rfl)
     rintro ⟨v101002, v103002, v104002, g6⟩ w199999 HS
     obtain ⟨B101002, d101002, rfl, m101002⟩ := HS.form 1 rfl
     obtain ⟨B103002, d103002, rfl, m103002⟩ := HS.form 2 rfl
     obtain ⟨B104002, d104002, rfl, m104002⟩ := HS.form 3 rfl
     have F := HS.boxes; simp only [boxFacts, wrt, clr0, clr1, List.cons_append, List.nil_append, List.append_nil, List.set_cons_zero, List.set_cons_succ, and_true] at F
     refine norm_ (a' := ?_) ?_ ?_
     rotate_left
     · simp only [putAll, Act.put, List.setIfInBounds_toArray, List.set_cons_zero, List.set_cons_succ, i64_w, i32_w]; rfl
     refine done_ (done_of HT.out (by kernel_rfl)) ?_
     obtain ⟨t12, ht12, H⟩ := zbind H
     obtain ⟨t15, ht15, H⟩ := zbind H
     obtain ⟨t22, ht22, H⟩ := zbind H
     obtain ⟨t29, ht29, H⟩ := zbind H
     by_cases c31 : t29 = true
     · replace H := zpos c31 H
       go_upto_if 53 with (first | ((with_reducible refine gate_dst (N := 36) rfl ?_); refine ev_call rfl Try.func51 (by kernel_rfl) rfl #[.slice Ap0 a0.length cp0] rfl (by simp only [List.map_toArray, List.map_cons, List.map_nil]; rfl) ?_; refine (laws_toCrlS.calls ht12.out (HS.ro gp0) lp0).mono ?_; rintro _ wt12 ⟨v13, rfl, HQ⟩; refine ⟨_, rfl, ?_⟩; replace HS := HS.call HQ; clear HQ; (try clear F); obtain ⟨B13, d13, rfl, m13⟩ := HS.form 5 rfl; have F := HS.boxes; simp only [boxFacts, wrt, clr0, clr1, List.cons_append, List.nil_append, List.append_nil, List.set_cons_zero, List.set_cons_succ, and_true] at F) | ((with_reducible refine gate_dst (N := 38) rfl ?_); refine ev_call rfl Try.func31 (by kernel_rfl) rfl #[.agg #[.string a1.f0, .int .i64 a1.f1, .int .i64 a1.f2, .int .i64 a1.f3, .int .i64 a1.f4, .slice Ap1 a1.f5.length cp1, .string a1.f6]] rfl (by simp only [List.map_toArray, List.map_cons, List.map_nil]; rfl) ?_; refine (laws_toCrl.calls ht15.out (HS.ro gp1) lp1).mono ?_; rintro _ wt15 ⟨v16, rfl, HQ⟩; refine ⟨_, rfl, ?_⟩; replace HS := HS.call HQ; clear HQ; (try clear F); obtain ⟨B16, d16, rfl, m16⟩ := HS.form 6 rfl; have F := HS.boxes; simp only [boxFacts, wrt, clr0, clr1, List.cons_append, List.nil_append, List.append_nil, List.set_cons_zero, List.set_cons_succ, and_true] at F) | ((with_reducible refine gate_dst (N := 9) rfl ?_); refine ev_box rfl HS (by first | (go_simp; done) | (go_simp; rfl)) rfl ?_; clear HS; (try clear F); intro g9 w9 HS; have F := HS.boxes; simp only [boxFacts, wrt, clr0, clr1, List.cons_append, List.nil_append, List.append_nil, List.set_cons_zero, List.set_cons_succ, and_true] at F) | ((with_reducible refine gate_store (p := 9) rfl ?_); refine ev_store rfl 7 0 HS (seg := [.string t15.f0, .int .i64 t15.f1, .int .i64 t15.f2, .int .i64 t15.f3, .int .i64 t15.f4, .slice B16 t15.f5.length d16, .string t15.f6]) rfl rfl rfl rfl rfl rfl (by kernel_rfl) (by simp [wrt]) (by simp [Value.oneCell']) ?_; clear HS; (try clear F); intro w20 HS; have F := HS.boxes; simp only [boxFacts, wrt, clr0, clr1, List.cons_append, List.nil_append, List.append_nil, List.set_cons_zero, List.set_cons_succ, and_true] at F) | ((with_reducible refine gate_dst (N := 42) rfl ?_); refine ev_call rfl Try.func58 (by kernel_rfl) rfl #[.slice B13 t12.length d13, .agg #[.string t15.f0, .int .i64 t15.f1, .int .i64 t15.f2, .int .i64 t15.f3, .int .i64 t15.f4, .slice B16 t15.f5.length d16, .string t15.f6]] rfl (by simp only [List.map_toArray, List.map_cons, List.map_nil]; rfl) ?_; refine (impl_DeltaOf.calls ht22.out (HS.rd 5 rfl) m13 (HS.rd 6 rfl) m16).mono ?_; rintro _ wt22 ⟨v23, rfl, HQ⟩; refine ⟨_, rfl, ?_⟩; replace HS := HS.call HQ; clear HQ; (try clear F); obtain ⟨B23, d23, rfl, m23⟩ := HS.form 8 rfl; have F := HS.boxes; simp only [boxFacts, wrt, clr0, clr1, List.cons_append, List.nil_append, List.append_nil, List.set_cons_zero, List.set_cons_succ, and_true] at F) | ((with_reducible refine gate_dst (N := 10) rfl ?_); refine ev_box rfl HS (by first | (go_simp; done) | (go_simp; rfl)) rfl ?_; clear HS; (try clear F); intro g10 w10 HS; have F := HS.boxes; simp only [boxFacts, wrt, clr0, clr1, List.cons_append, List.nil_append, List.append_nil, List.set_cons_zero, List.set_cons_succ, and_true] at F) | ((with_reducible refine gate_store (p := 10) rfl ?_); refine ev_store rfl 9 0 HS (seg := [.string t22.1.f0, .int .i64 t22.1.f1, .int .i64 t22.1.f2, .int .i64 t22.1.f3, .int .i64 t22.1.f4, .slice B23 t22.1.f5.length d23, .string t22.1.f6]) rfl rfl rfl rfl rfl rfl (by kernel_rfl) (by simp [wrt]) (by simp [Value.oneCell']) ?_; clear HS; (try clear F); intro w27 HS; have F := HS.boxes; simp only [boxFacts, wrt, clr0, clr1, List.cons_append, List.nil_append, List.append_nil, List.set_cons_zero, List.set_cons_succ, and_true] at F) | ((with_reducible refine gate_dst (N := 47) rfl ?_); refine ev_call rfl Try.func33 (by kernel_rfl) rfl #[.agg #[.string t22.1.f0, .int .i64 t22.1.f1, .int .i64 t22.1.f2, .int .i64 t22.1.f3, .int .i64 t22.1.f4, .slice B23 t22.1.f5.length d23, .string t22.1.f6], .agg #[.string t104001.1.f0, .int .i64 t104001.1.f1, .int .i64 t104001.1.f2, .int .i64 t104001.1.f3, .int .i64 t104001.1.f4, .slice B104002 t104001.1.f5.length d104002, .string t104001.1.f6]] rfl (by simp only [List.map_toArray, List.map_cons, List.map_nil]; rfl) ?_; refine (laws_eqCrl.calls ht29.out (HS.rd 8 rfl) m23 (HS.rd 3 rfl) m104002).mono ?_; rintro _ wt29 ⟨rfl, HQ⟩; refine ⟨_, rfl, ?_⟩; replace HS := HS.call HQ; clear HQ; (try clear F); have F := HS.boxes; simp only [boxFacts, wrt, clr0, clr1, List.cons_append, List.nil_append, List.append_nil, List.set_cons_zero, List.set_cons_succ, and_true] at F; (try simp only [c31])))
       by_cases c32 : t22.2 = t104001.2
       · replace H := zpos c32 H
         have c32a := beq_iff_eq.mpr c32
         have c32b := bne_eq_false_iff_eq.mpr c32
         clear c32
         (try simp only [c32a, c32b, decide_true, decide_false, Bool.not_true, Bool.not_false])
         obtain ⟨t33, ht33, H⟩ := zbind H
         obtain ⟨t36, ht36, H⟩ := zbind H
         go_upto_if 58 with (first | ((with_reducible refine gate_dst (N := 56) rfl ?_); refine ev_call rfl Try.func51 (by kernel_rfl) rfl #[.slice Ap0 a0.length cp0] rfl (by simp only [List.map_toArray, List.map_cons, List.map_nil]; rfl) ?_; refine (laws_toCrlS.calls ht33.out (HS.ro gp0) lp0).mono ?_; rintro _ wt33 ⟨v34, rfl, HQ⟩; refine ⟨_, rfl, ?_⟩; replace HS := HS.call HQ; clear HQ; (try clear F); obtain ⟨B34, d34, rfl, m34⟩ := HS.form 10 rfl; have F := HS.boxes; simp only [boxFacts, wrt, clr0, clr1, List.cons_append, List.nil_append, List.append_nil, List.set_cons_zero, List.set_cons_succ, and_true] at F) | ((with_reducible refine gate_dst (N := 57) rfl ?_); refine ev_call rfl Try.func53 (by kernel_rfl) rfl #[.slice B13 t12.length d13, .slice B34 t33.length d34] rfl (by simp only [List.map_toArray, List.map_cons, List.map_nil]; rfl) ?_; refine (laws_eqCrlS.calls ht36.out (HS.rd 5 rfl) m13 (HS.rd 10 rfl) m34).mono ?_; rintro _ wt36 ⟨rfl, HQ⟩; refine ⟨_, rfl, ?_⟩; replace HS := HS.call HQ; clear HQ; (try clear F); have F := HS.boxes; simp only [boxFacts, wrt, clr0, clr1, List.cons_append, List.nil_append, List.append_nil, List.set_cons_zero, List.set_cons_succ, and_true] at F))
         by_cases c38 : t36 = true
         · replace H := zpos c38 H
           (try simp only [c38, decide_true, decide_false, Bool.not_true, Bool.not_false])
           (try go_wp2)
           obtain ⟨t202001, ht202001, H⟩ := zbind H
           obtain ⟨t203001, ht203001, H⟩ := zbind H
           refine dr_start [] HS #[false, false, false, false, false] (by kernel_rfl) rfl rfl laws_FnExactDeltaOf.tT16 (fun w40 HT HS HH => ?_)
           (try clear F)
           refine dr_take 0 (some 59) HT HH (v := ?_) (a' := ?_) rfl rfl (by kernel_rfl) (fun _ _ _ h => h) (.inl ⟨by rfl, ?_⟩) ?_ ?_
           rotate_left
           · rintro w' ⟨rs', HS'⟩; have F := HS'.boxes; simp only [boxFacts, wrt, clr0, clr1, List.cons_append, List.nil_append, List.append_nil, List.set_cons_zero, List.set_cons_succ, and_true] at F; go_simp; with_reducible rfl
           rotate_left
           · simp only [Act.put, List.setIfInBounds_toArray, List.set_cons_zero, List.set_cons_succ, i64_w, i32_w]; rfl
           refine dr_take 1 (some 60) HT HH (v := ?_) (a' := ?_) rfl rfl (by kernel_rfl) (fun _ _ _ h => h) (.inl ⟨by rfl, ?_⟩) ?_ ?_
           rotate_left
           · rintro w' ⟨rs', HS'⟩; have F := HS'.boxes; simp only [boxFacts, wrt, clr0, clr1, List.cons_append, List.nil_append, List.append_nil, List.set_cons_zero, List.set_cons_succ, and_true] at F; go_simp; with_reducible rfl
           rotate_left
           · simp only [Act.put, List.setIfInBounds_toArray, List.set_cons_zero, List.set_cons_succ, i64_w, i32_w]; rfl
           refine dr_one 2 HT rfl (by kernel_rfl) (by decide) (fun K hK => ?_)
           refine goes_ Try.func31 (by kernel_rfl) rfl #[.agg #[.string a1.f0, .int .i64 a1.f1, .int .i64 a1.f2, .int .i64 a1.f3, .int .i64 a1.f4, .slice Ap1 a1.f5.length cp1, .string a1.f6]] (by rfl) rfl rfl (by simp only [List.map_toArray, List.map_cons, List.map_nil]; rfl) ?_; refine (laws_toCrl.calls ht202001.out (HS.ro gp1) lp1).mono ?_; rintro _ wt202001 ⟨v202002, rfl, HQ⟩; refine ⟨_, rfl, ?_⟩; replace HS := HS.call HQ; clear HQ; (try clear F); obtain ⟨B202002, d202002, rfl, m202002⟩ := HS.form 11 rfl; have F := HS.boxes; simp only [boxFacts, wrt, clr0, clr1, List.cons_append, List.nil_append, List.append_nil, List.set_cons_zero, List.set_cons_succ, and_true] at F
           refine hK.out _ _ ⟨_, HS⟩ (fun HH => ?_)
           clear hK K
           refine norm_ (a' := ?_) ?_ ?_
           rotate_left
           · show Act.put _ (some 61) _ = _; simp only [Act.put, List.setIfInBounds_toArray, List.set_cons_zero, List.set_cons_succ, i64_w, i32_w, c31, c38]; rfl
           refine dr_one 3 HT rfl (by kernel_rfl) (by decide) (fun K hK => ?_)
           refine goes_ Try.func33 (by kernel_rfl) rfl #[.agg #[.string t15.f0, .int .i64 t15.f1, .int .i64 t15.f2, .int .i64 t15.f3, .int .i64 t15.f4, .slice B16 t15.f5.length d16, .string t15.f6], .agg #[.string t202001.f0, .int .i64 t202001.f1, .int .i64 t202001.f2, .int .i64 t202001.f3, .int .i64 t202001.f4, .slice B202002 t202001.f5.length d202002, .string t202001.f6]] (by rfl) rfl rfl (by simp only [List.map_toArray, List.map_cons, List.map_nil]; rfl) ?_; refine (laws_eqCrl.calls ht203001.out (HS.rd 6 rfl) m16 (HS.rd 11 rfl) m202002).mono ?_; rintro _ wt203001 ⟨rfl, HQ⟩; refine ⟨_, rfl, ?_⟩; replace HS := HS.call HQ; clear HQ; (try clear F); have F := HS.boxes; simp only [boxFacts, wrt, clr0, clr1, List.cons_append, List.nil_append, List.append_nil, List.set_cons_zero, List.set_cons_succ, and_true] at F
           refine hK.out _ _ ⟨_, HS⟩ (fun HH => ?_)
           clear hK K
           refine norm_ (a' := ?_) ?_ ?_
           rotate_left
           · show Act.put _ (some 62) _ = _; simp only [Act.put, List.setIfInBounds_toArray, List.set_cons_zero, List.set_cons_succ, i64_w, i32_w, c31, c38]; rfl
           refine dr_pure 4 (some 63) HT (v := ?_) (a' := ?_) rfl rfl (by kernel_rfl) (fun _ _ _ h => h) (.inl ⟨by rfl, ?_⟩) ?_ ?_
           rotate_left
           · intro w'; go_simp; with_reducible rfl
           rotate_left
           · simp only [Act.put, List.setIfInBounds_toArray, List.set_cons_zero, List.set_cons_succ, i64_w, i32_w]; rfl
           refine done_ (done_of HT.out (by kernel_rfl)) ?_
           by_cases c42 : t203001 = true
           · replace H := zpos c42 H
             (try simp only [c42, decide_true, decide_false, Bool.not_true, Bool.not_false])
             obtain ⟨t43, ht43, H⟩ := zbind H
             obtain ⟨t45, ht45, H⟩ := zbind H
             by_cases c47 : t45.1 < 0
             · replace H := zpos c47 H
               replace c47 := eq_true c47
               obtain rfl := zsome H
               go_wp2_with (first | ((with_reducible refine gate_dst (N := 66) rfl ?_); refine HS.lend [5] (by decide) [.own (Zd.slice 54 q54) t12 [.slice B13 t12.length d13]] rfl (fun A' HA HB => ?_); refine ev_call rfl Try.func54 (by kernel_rfl) rfl #[.slice B13 t12.length d13, .int .i64 1] rfl (by simp only [List.map_toArray, List.map_cons, List.map_nil]; rfl) ?_; refine (laws_markCrlS.calls ht43.out HA).mono ?_; rintro _ wt43 ⟨rfl, HQ⟩; refine ⟨_, rfl, ?_⟩; replace HS : Hp noFP w _ [.box g3 [.string a1.f0, .int .i64 a1.f1, .int .i64 a1.f2, .int .i64 a1.f3, .int .i64 a1.f4, .slice Ap1 a1.f5.length cp1, .string a1.f6] 49, .own (Zd.slice 54 q54) t101001 [.slice B101002 t101001.length d101002], .own (Zd.slice 119 q119) t103001.f5 [.slice B103002 t103001.f5.length d103002], .own (Zd.slice 119 q119) t104001.1.f5 [.slice B104002 t104001.1.f5.length d104002], .box g6 [.string t104001.1.f0, .int .i64 t104001.1.f1, .int .i64 t104001.1.f2, .int .i64 t104001.1.f3, .int .i64 t104001.1.f4, .slice B104002 t104001.1.f5.length d104002, .string t104001.1.f6] 54, .own (Zd.slice 54 q54) t43.2 [.slice B13 t12.length d13], .own (Zd.slice 119 q119) t15.f5 [.slice B16 t15.f5.length d16], .box g9 [.string t15.f0, .int .i64 t15.f1, .int .i64 t15.f2, .int .i64 t15.f3, .int .i64 t15.f4, .slice B16 t15.f5.length d16, .string t15.f6] 54, .own (Zd.slice 119 q119) t22.1.f5 [.slice B23 t22.1.f5.length d23], .box g10 [.string t22.1.f0, .int .i64 t22.1.f1, .int .i64 t22.1.f2, .int .i64 t22.1.f3, .int .i64 t22.1.f4, .slice B23 t22.1.f5.length d23, .string t22.1.f6] 54, .own (Zd.slice 54 q54) t33 [.slice B34 t33.length d34], .own (Zd.slice 119 q119) t202001.f5 [.slice B202002 t202001.f5.length d202002]] := HB _ _ HQ (Nat.le_of_ble_eq_true rfl); clear HQ HA HB; (try clear F); have F := HS.boxes; simp only [boxFacts, wrt, clr0, clr1, List.cons_append, List.nil_append, List.append_nil, List.set_cons_zero, List.set_cons_succ, and_true] at F) | ((with_reducible refine gate_dst (N := 69) rfl ?_); refine HS.lend [6] (by decide) [.own (Zd.slice 119 q119) t15.f5 [.slice B16 t15.f5.length d16]] rfl (fun A' HA HB => ?_); refine ev_call rfl Try.func55 (by kernel_rfl) rfl #[.agg #[.string t15.f0, .int .i64 t15.f1, .int .i64 t15.f2, .int .i64 t15.f3, .int .i64 t15.f4, .slice B16 t15.f5.length d16, .string t15.f6], .int .i64 t43.1] rfl (by simp only [List.map_toArray, List.map_cons, List.map_nil]; rfl) ?_; refine (laws_markCrl.calls ht45.out HA).mono ?_; rintro _ wt45 ⟨rfl, HQ⟩; refine ⟨_, rfl, ?_⟩; replace HS : Hp noFP w _ [.box g3 [.string a1.f0, .int .i64 a1.f1, .int .i64 a1.f2, .int .i64 a1.f3, .int .i64 a1.f4, .slice Ap1 a1.f5.length cp1, .string a1.f6] 49, .own (Zd.slice 54 q54) t101001 [.slice B101002 t101001.length d101002], .own (Zd.slice 119 q119) t103001.f5 [.slice B103002 t103001.f5.length d103002], .own (Zd.slice 119 q119) t104001.1.f5 [.slice B104002 t104001.1.f5.length d104002], .box g6 [.string t104001.1.f0, .int .i64 t104001.1.f1, .int .i64 t104001.1.f2, .int .i64 t104001.1.f3, .int .i64 t104001.1.f4, .slice B104002 t104001.1.f5.length d104002, .string t104001.1.f6] 54, .own (Zd.slice 54 q54) t43.2 [.slice B13 t12.length d13], .own (Zd.slice 119 q119) t45.2 [.slice B16 t15.f5.length d16], .box g9 [.string t15.f0, .int .i64 t15.f1, .int .i64 t15.f2, .int .i64 t15.f3, .int .i64 t15.f4, .slice B16 t15.f5.length d16, .string t15.f6] 54, .own (Zd.slice 119 q119) t22.1.f5 [.slice B23 t22.1.f5.length d23], .box g10 [.string t22.1.f0, .int .i64 t22.1.f1, .int .i64 t22.1.f2, .int .i64 t22.1.f3, .int .i64 t22.1.f4, .slice B23 t22.1.f5.length d23, .string t22.1.f6] 54, .own (Zd.slice 54 q54) t33 [.slice B34 t33.length d34], .own (Zd.slice 119 q119) t202001.f5 [.slice B202002 t202001.f5.length d202002]] := HB _ _ HQ (Nat.le_of_ble_eq_true rfl); clear HQ HA HB; (try clear F); have F := HS.boxes; simp only [boxFacts, wrt, clr0, clr1, List.cons_append, List.nil_append, List.append_nil, List.set_cons_zero, List.set_cons_succ, and_true] at F))
               go_ret
               exact ⟨rfl, HS.pick [] (by decide) (by rfl)⟩
             · replace H := zneg c47 H
               replace c47 := eq_false c47
               obtain ⟨t48, ht48, H⟩ := zbind H
               by_cases c50 : t48 = true
               · replace H := zpos c50 H
                 obtain ⟨t51, ht51, H⟩ := zbind H
                 obtain ⟨t53, ht53, H⟩ := zbind H
                 go_upto_if 90 with (first | ((with_reducible refine gate_dst (N := 66) rfl ?_); refine HS.lend [5] (by decide) [.own (Zd.slice 54 q54) t12 [.slice B13 t12.length d13]] rfl (fun A' HA HB => ?_); refine ev_call rfl Try.func54 (by kernel_rfl) rfl #[.slice B13 t12.length d13, .int .i64 1] rfl (by simp only [List.map_toArray, List.map_cons, List.map_nil]; rfl) ?_; refine (laws_markCrlS.calls ht43.out HA).mono ?_; rintro _ wt43 ⟨rfl, HQ⟩; refine ⟨_, rfl, ?_⟩; replace HS : Hp noFP w _ [.box g3 [.string a1.f0, .int .i64 a1.f1, .int .i64 a1.f2, .int .i64 a1.f3, .int .i64 a1.f4, .slice Ap1 a1.f5.length cp1, .string a1.f6] 49, .own (Zd.slice 54 q54) t101001 [.slice B101002 t101001.length d101002], .own (Zd.slice 119 q119) t103001.f5 [.slice B103002 t103001.f5.length d103002], .own (Zd.slice 119 q119) t104001.1.f5 [.slice B104002 t104001.1.f5.length d104002], .box g6 [.string t104001.1.f0, .int .i64 t104001.1.f1, .int .i64 t104001.1.f2, .int .i64 t104001.1.f3, .int .i64 t104001.1.f4, .slice B104002 t104001.1.f5.length d104002, .string t104001.1.f6] 54, .own (Zd.slice 54 q54) t43.2 [.slice B13 t12.length d13], .own (Zd.slice 119 q119) t15.f5 [.slice B16 t15.f5.length d16], .box g9 [.string t15.f0, .int .i64 t15.f1, .int .i64 t15.f2, .int .i64 t15.f3, .int .i64 t15.f4, .slice B16 t15.f5.length d16, .string t15.f6] 54, .own (Zd.slice 119 q119) t22.1.f5 [.slice B23 t22.1.f5.length d23], .box g10 [.string t22.1.f0, .int .i64 t22.1.f1, .int .i64 t22.1.f2, .int .i64 t22.1.f3, .int .i64 t22.1.f4, .slice B23 t22.1.f5.length d23, .string t22.1.f6] 54, .own (Zd.slice 54 q54) t33 [.slice B34 t33.length d34], .own (Zd.slice 119 q119) t202001.f5 [.slice B202002 t202001.f5.length d202002]] := HB _ _ HQ (Nat.le_of_ble_eq_true rfl); clear HQ HA HB; (try clear F); have F := HS.boxes; simp only [boxFacts, wrt, clr0, clr1, List.cons_append, List.nil_append, List.append_nil, List.set_cons_zero, List.set_cons_succ, and_true] at F) | ((with_reducible refine gate_dst (N := 69) rfl ?_); refine HS.lend [6] (by decide) [.own (Zd.slice 119 q119) t15.f5 [.slice B16 t15.f5.length d16]] rfl (fun A' HA HB => ?_); refine ev_call rfl Try.func55 (by kernel_rfl) rfl #[.agg #[.string t15.f0, .int .i64 t15.f1, .int .i64 t15.f2, .int .i64 t15.f3, .int .i64 t15.f4, .slice B16 t15.f5.length d16, .string t15.f6], .int .i64 t43.1] rfl (by simp only [List.map_toArray, List.map_cons, List.map_nil]; rfl) ?_; refine (laws_markCrl.calls ht45.out HA).mono ?_; rintro _ wt45 ⟨rfl, HQ⟩; refine ⟨_, rfl, ?_⟩; replace HS : Hp noFP w _ [.box g3 [.string a1.f0, .int .i64 a1.f1, .int .i64 a1.f2, .int .i64 a1.f3, .int .i64 a1.f4, .slice Ap1 a1.f5.length cp1, .string a1.f6] 49, .own (Zd.slice 54 q54) t101001 [.slice B101002 t101001.length d101002], .own (Zd.slice 119 q119) t103001.f5 [.slice B103002 t103001.f5.length d103002], .own (Zd.slice 119 q119) t104001.1.f5 [.slice B104002 t104001.1.f5.length d104002], .box g6 [.string t104001.1.f0, .int .i64 t104001.1.f1, .int .i64 t104001.1.f2, .int .i64 t104001.1.f3, .int .i64 t104001.1.f4, .slice B104002 t104001.1.f5.length d104002, .string t104001.1.f6] 54, .own (Zd.slice 54 q54) t43.2 [.slice B13 t12.length d13], .own (Zd.slice 119 q119) t45.2 [.slice B16 t15.f5.length d16], .box g9 [.string t15.f0, .int .i64 t15.f1, .int .i64 t15.f2, .int .i64 t15.f3, .int .i64 t15.f4, .slice B16 t15.f5.length d16, .string t15.f6] 54, .own (Zd.slice 119 q119) t22.1.f5 [.slice B23 t22.1.f5.length d23], .box g10 [.string t22.1.f0, .int .i64 t22.1.f1, .int .i64 t22.1.f2, .int .i64 t22.1.f3, .int .i64 t22.1.f4, .slice B23 t22.1.f5.length d23, .string t22.1.f6] 54, .own (Zd.slice 54 q54) t33 [.slice B34 t33.length d34], .own (Zd.slice 119 q119) t202001.f5 [.slice B202002 t202001.f5.length d202002]] := HB _ _ HQ (Nat.le_of_ble_eq_true rfl); clear HQ HA HB; (try clear F); have F := HS.boxes; simp only [boxFacts, wrt, clr0, clr1, List.cons_append, List.nil_append, List.append_nil, List.set_cons_zero, List.set_cons_succ, and_true] at F) | ((with_reducible refine gate_dst (N := 75) rfl ?_); refine gate_guard (by rfl) ?_; refine ev_call rfl Try.func33 (by kernel_rfl) rfl #[.agg #[.string t22.1.f0, .int .i64 t22.1.f1, .int .i64 t22.1.f2, .int .i64 t22.1.f3, .int .i64 t22.1.f4, .slice B23 t22.1.f5.length d23, .string t22.1.f6], .agg #[.string t104001.1.f0, .int .i64 t104001.1.f1, .int .i64 t104001.1.f2, .int .i64 t104001.1.f3, .int .i64 t104001.1.f4, .slice B104002 t104001.1.f5.length d104002, .string t104001.1.f6]] rfl (by simp only [List.map_toArray, List.map_cons, List.map_nil]; rfl) ?_; refine (laws_eqCrl.calls ht48.out (HS.rd 8 rfl) m23 (HS.rd 3 rfl) m104002).mono ?_; rintro _ wt48 ⟨rfl, HQ⟩; refine ⟨_, rfl, ?_⟩; replace HS := HS.call HQ; clear HQ; (try clear F); have F := HS.boxes; simp only [boxFacts, wrt, clr0, clr1, List.cons_append, List.nil_append, List.append_nil, List.set_cons_zero, List.set_cons_succ, and_true] at F; (try simp only [c50])) | ((with_reducible refine gate_dst (N := 85) rfl ?_); refine HS.lend [8] (by decide) [.own (Zd.slice 119 q119) t22.1.f5 [.slice B23 t22.1.f5.length d23]] rfl (fun A' HA HB => ?_); refine ev_call rfl Try.func55 (by kernel_rfl) rfl #[.agg #[.string t22.1.f0, .int .i64 t22.1.f1, .int .i64 t22.1.f2, .int .i64 t22.1.f3, .int .i64 t22.1.f4, .slice B23 t22.1.f5.length d23, .string t22.1.f6], .int .i64 1] rfl (by simp only [List.map_toArray, List.map_cons, List.map_nil]; rfl) ?_; refine (laws_markCrl.calls ht51.out HA).mono ?_; rintro _ wt51 ⟨rfl, HQ⟩; refine ⟨_, rfl, ?_⟩; replace HS : Hp noFP w _ [.box g3 [.string a1.f0, .int .i64 a1.f1, .int .i64 a1.f2, .int .i64 a1.f3, .int .i64 a1.f4, .slice Ap1 a1.f5.length cp1, .string a1.f6] 49, .own (Zd.slice 54 q54) t101001 [.slice B101002 t101001.length d101002], .own (Zd.slice 119 q119) t103001.f5 [.slice B103002 t103001.f5.length d103002], .own (Zd.slice 119 q119) t104001.1.f5 [.slice B104002 t104001.1.f5.length d104002], .box g6 [.string t104001.1.f0, .int .i64 t104001.1.f1, .int .i64 t104001.1.f2, .int .i64 t104001.1.f3, .int .i64 t104001.1.f4, .slice B104002 t104001.1.f5.length d104002, .string t104001.1.f6] 54, .own (Zd.slice 54 q54) t43.2 [.slice B13 t12.length d13], .own (Zd.slice 119 q119) t45.2 [.slice B16 t15.f5.length d16], .box g9 [.string t15.f0, .int .i64 t15.f1, .int .i64 t15.f2, .int .i64 t15.f3, .int .i64 t15.f4, .slice B16 t15.f5.length d16, .string t15.f6] 54, .own (Zd.slice 119 q119) t51.2 [.slice B23 t22.1.f5.length d23], .box g10 [.string t22.1.f0, .int .i64 t22.1.f1, .int .i64 t22.1.f2, .int .i64 t22.1.f3, .int .i64 t22.1.f4, .slice B23 t22.1.f5.length d23, .string t22.1.f6] 54, .own (Zd.slice 54 q54) t33 [.slice B34 t33.length d34], .own (Zd.slice 119 q119) t202001.f5 [.slice B202002 t202001.f5.length d202002]] := HB _ _ HQ (Nat.le_of_ble_eq_true rfl); clear HQ HA HB; (try clear F); have F := HS.boxes; simp only [boxFacts, wrt, clr0, clr1, List.cons_append, List.nil_append, List.append_nil, List.set_cons_zero, List.set_cons_succ, and_true] at F) | ((with_reducible refine gate_dst (N := 88) rfl ?_); refine ev_call rfl Try.func56 (by kernel_rfl) rfl #[.agg #[.string t22.1.f0, .int .i64 t22.1.f1, .int .i64 t22.1.f2, .int .i64 t22.1.f3, .int .i64 t22.1.f4, .slice B23 t22.1.f5.length d23, .string t22.1.f6], .int .i64 1] rfl (by simp only [List.map_toArray, List.map_cons, List.map_nil]; rfl) ?_; refine (laws_heldCrl.calls ht53.out (HS.rd 8 rfl) m23).mono ?_; rintro _ wt53 ⟨rfl, HQ⟩; refine ⟨_, rfl, ?_⟩; replace HS := HS.call HQ; clear HQ; (try clear F); have F := HS.boxes; simp only [boxFacts, wrt, clr0, clr1, List.cons_append, List.nil_append, List.append_nil, List.set_cons_zero, List.set_cons_succ, and_true] at F))
                 by_cases c55 : t53 < 0
                 · replace H := zpos c55 H
                   replace c55 := eq_true c55
                   (try simp only [c55, decide_true, decide_false, Bool.not_true, Bool.not_false])
                   obtain rfl := zsome H
                   go_wp2
                   go_ret
                   exact ⟨rfl, HS.pick [] (by decide) (by rfl)⟩
                 · replace H := zneg c55 H
                   replace c55 := eq_false c55
                   (try simp only [c55, decide_true, decide_false, Bool.not_true, Bool.not_false])
                   by_cases c56 : t53 = t51.1
                   · replace H := zpos c56 H
                     have c56a := beq_iff_eq.mpr c56
                     have c56b := bne_eq_false_iff_eq.mpr c56
                     clear c56
                     (try simp only [c56a, c56b, decide_true, decide_false, Bool.not_true, Bool.not_false])
                     (try go_wp2)
                     obtain ⟨t301001, ht301001, H⟩ := zbind H
                     obtain ⟨t303001, ht303001, H⟩ := zbind H
                     obtain ⟨t304001, ht304001, H⟩ := zbind H
                     refine dr_start [9] HS #[false, false, false, false, false, false, false, false, false, false, false] (by kernel_rfl) rfl rfl laws_FnExactDeltaOf.tT31 (fun w58 HT HS HH => ?_)
                     (try clear F)
                     refine join_ 0 #[true, true, true, true, true, true, true, true, true, true, true] (fun ((v301002, v303002, v304002, g15) : Value × Value × Value × Nat) => ([(95, .slice Ap0 a0.length cp0), (96, v301002), (97, .agg #[.string a1.f0, .int .i64 a1.f1, .int .i64 a1.f2, .int .i64 a1.f3, .int .i64 a1.f4, .slice Ap1 a1.f5.length cp1, .string a1.f6]), (98, .agg #[.string t303001.f0, .int .i64 t303001.f1, .int .i64 t303001.f2, .int .i64 t303001.f3, .int .i64 t303001.f4, v303002, .string t303001.f6]), (99, .tuple #[.agg #[.string t304001.1.f0, .int .i64 t304001.1.f1, .int .i64 t304001.1.f2, .int .i64 t304001.1.f3, .int .i64 t304001.1.f4, v304002, .string t304001.1.f6], .bool t304001.2]), (94, .tuple #[.agg #[.string t304001.1.f0, .int .i64 t304001.1.f1, .int .i64 t304001.1.f2, .int .i64 t304001.1.f3, .int .i64 t304001.1.f4, v304002, .string t304001.1.f6], .bool t304001.2]), (100, .agg #[.string t304001.1.f0, .int .i64 t304001.1.f1, .int .i64 t304001.1.f2, .int .i64 t304001.1.f3, .int .i64 t304001.1.f4, v304002, .string t304001.1.f6]), (101, .bool t304001.2), (15, .pointer (some ⟨g15, 0, none⟩)), (16, .bool t304001.2)] : List (Tmp × Value))) (fun ((v301002, v303002, v304002, g15) : Value × Value × Value × Nat) w' => Hp noFP w w' [.box g3 [.string a1.f0, .int .i64 a1.f1, .int .i64 a1.f2, .int .i64 a1.f3, .int .i64 a1.f4, .slice Ap1 a1.f5.length cp1, .string a1.f6] 49, .own (Zd.slice 54 q54) t101001 [.slice B101002 t101001.length d101002], .own (Zd.slice 119 q119) t103001.f5 [.slice B103002 t103001.f5.length d103002], .own (Zd.slice 119 q119) t104001.1.f5 [.slice B104002 t104001.1.f5.length d104002], .box g6 [.string t104001.1.f0, .int .i64 t104001.1.f1, .int .i64 t104001.1.f2, .int .i64 t104001.1.f3, .int .i64 t104001.1.f4, .slice B104002 t104001.1.f5.length d104002, .string t104001.1.f6] 54, .own (Zd.slice 54 q54) t43.2 [.slice B13 t12.length d13], .own (Zd.slice 119 q119) t45.2 [.slice B16 t15.f5.length d16], .box g9 [.string t15.f0, .int .i64 t15.f1, .int .i64 t15.f2, .int .i64 t15.f3, .int .i64 t15.f4, .slice B16 t15.f5.length d16, .string t15.f6] 54, .own (Zd.slice 119 q119) t51.2 [.slice B23 t22.1.f5.length d23], .box g10 [.string t22.1.f0, .int .i64 t22.1.f1, .int .i64 t22.1.f2, .int .i64 t22.1.f3, .int .i64 t22.1.f4, .slice B23 t22.1.f5.length d23, .string t22.1.f6] 54, .own (Zd.slice 54 q54) t33 [.slice B34 t33.length d34], .own (Zd.slice 119 q119) t202001.f5 [.slice B202002 t202001.f5.length d202002], .own (Zd.slice 54 q54) t301001 [v301002], .own (Zd.slice 119 q119) t303001.f5 [v303002], .own (Zd.slice 119 q119) t304001.1.f5 [v304002], .box g15 [.string t304001.1.f0, .int .i64 t304001.1.f1, .int .i64 t304001.1.f2, .int .i64 t304001.1.f3, .int .i64 t304001.1.f4, v304002, .string t304001.1.f6] 54]) ?_ ?_
                     rotate_left
                     · intro hJ
                       refine dr_pure 0 (some 95) HT (v := ?_) (a' := ?_) rfl rfl (by kernel_rfl) (fun _ _ _ h => h) (.inl ⟨by rfl, ?_⟩) ?_ ?_
                       rotate_left
                       · intro w'; go_simp; with_reducible rfl
                       rotate_left
                       · simp only [Act.put, List.setIfInBounds_toArray, List.set_cons_zero, List.set_cons_succ, i64_w, i32_w]; rfl
                       refine dr_take 2 (some 97) HT HH (v := ?_) (a' := ?_) rfl rfl (by kernel_rfl) (fun _ _ _ h => h) (.inl ⟨by rfl, ?_⟩) ?_ ?_
                       rotate_left
                       · rintro w' ⟨rs', HS'⟩; have F := HS'.boxes; simp only [boxFacts, wrt, clr0, clr1, List.cons_append, List.nil_append, List.append_nil, List.set_cons_zero, List.set_cons_succ, and_true] at F; go_simp; with_reducible rfl
                       rotate_left
                       · simp only [Act.put, List.setIfInBounds_toArray, List.set_cons_zero, List.set_cons_succ, i64_w, i32_w]; rfl
                       refine dr_any [1, 8] HT (by kernel_rfl) (by decide) (AllReadyL.cons rfl (by decide) (fun K hK => ?_) (AllReadyL.cons rfl (by decide) (fun K hK => ?_) AllReadyL.nil))
                       · refine goes_ Try.func51 (by kernel_rfl) rfl #[.slice Ap0 a0.length cp0] (by rfl) rfl rfl (by simp only [List.map_toArray, List.map_cons, List.map_nil]; rfl) ?_; refine (laws_toCrlS.calls ht301001.out (HS.ro gp0) lp0).mono ?_; rintro _ wt301001 ⟨v301002, rfl, HQ⟩; refine ⟨_, rfl, ?_⟩; replace HS := HS.call HQ; clear HQ; (try clear F); obtain ⟨B301002, d301002, rfl, m301002⟩ := HS.form 12 rfl; have F := HS.boxes; simp only [boxFacts, wrt, clr0, clr1, List.cons_append, List.nil_append, List.append_nil, List.set_cons_zero, List.set_cons_succ, and_true] at F
                         refine hK.out _ _ ⟨_, HS⟩ (fun HH => ?_)
                         clear hK K
                         refine norm_ (a' := ?_) ?_ ?_
                         rotate_left
                         · show Act.put _ (some 96) _ = _; simp only [Act.put, List.setIfInBounds_toArray, List.set_cons_zero, List.set_cons_succ, i64_w, i32_w, c31, c38, c42, c50]; rfl
                         refine dr_any [3, 8] HT (by kernel_rfl) (by decide) (AllReadyL.cons rfl (by decide) (fun K hK => ?_) (AllReadyL.cons rfl (by decide) (fun K hK => ?_) AllReadyL.nil))
                         · refine goes_ Try.func31 (by kernel_rfl) rfl #[.agg #[.string a1.f0, .int .i64 a1.f1, .int .i64 a1.f2, .int .i64 a1.f3, .int .i64 a1.f4, .slice Ap1 a1.f5.length cp1, .string a1.f6]] (by rfl) rfl rfl (by simp only [List.map_toArray, List.map_cons, List.map_nil]; rfl) ?_; refine (laws_toCrl.calls ht303001.out (HS.ro gp1) lp1).mono ?_; rintro _ wt303001 ⟨v303002, rfl, HQ⟩; refine ⟨_, rfl, ?_⟩; replace HS := HS.call HQ; clear HQ; (try clear F); obtain ⟨B303002, d303002, rfl, m303002⟩ := HS.form 13 rfl; have F := HS.boxes; simp only [boxFacts, wrt, clr0, clr1, List.cons_append, List.nil_append, List.append_nil, List.set_cons_zero, List.set_cons_succ, and_true] at F
                           refine hK.out _ _ ⟨_, HS⟩ (fun HH => ?_)
                           clear hK K
                           refine norm_ (a' := ?_) ?_ ?_
                           rotate_left
                           · show Act.put _ (some 98) _ = _; simp only [Act.put, List.setIfInBounds_toArray, List.set_cons_zero, List.set_cons_succ, i64_w, i32_w, c31, c38, c42, c50]; rfl
                           refine dr_any [4, 8] HT (by kernel_rfl) (by decide) (AllReadyL.cons rfl (by decide) (fun K hK => ?_) (AllReadyL.cons rfl (by decide) (fun K hK => ?_) AllReadyL.nil))
                           · refine goes_ Try.func58 (by kernel_rfl) rfl #[.slice B301002 t301001.length d301002, .agg #[.string t303001.f0, .int .i64 t303001.f1, .int .i64 t303001.f2, .int .i64 t303001.f3, .int .i64 t303001.f4, .slice B303002 t303001.f5.length d303002, .string t303001.f6]] (by rfl) rfl rfl (by simp only [List.map_toArray, List.map_cons, List.map_nil]; rfl) ?_; refine (impl_DeltaOf.calls ht304001.out (HS.rd 12 rfl) m301002 (HS.rd 13 rfl) m303002).mono ?_; rintro _ wt304001 ⟨v304002, rfl, HQ⟩; refine ⟨_, rfl, ?_⟩; replace HS := HS.call HQ; clear HQ; (try clear F); obtain ⟨B304002, d304002, rfl, m304002⟩ := HS.form 14 rfl; have F := HS.boxes; simp only [boxFacts, wrt, clr0, clr1, List.cons_append, List.nil_append, List.append_nil, List.set_cons_zero, List.set_cons_succ, and_true] at F
                             refine hK.out _ _ ⟨_, HS⟩ (fun HH => ?_)
                             clear hK K
                             refine norm_ (a' := ?_) ?_ ?_
                             rotate_left
                             · show Act.put _ (some 99) _ = _; simp only [Act.put, List.setIfInBounds_toArray, List.set_cons_zero, List.set_cons_succ, i64_w, i32_w, c31, c38, c42, c50]; rfl
                             refine dr_pure 5 (some 94) HT (v := ?_) (a' := ?_) rfl rfl (by kernel_rfl) (fun _ _ _ h => h) (.inl ⟨by rfl, ?_⟩) ?_ ?_
                             rotate_left
                             · intro w'; go_simp; with_reducible rfl
                             rotate_left
                             · simp only [Act.put, List.setIfInBounds_toArray, List.set_cons_zero, List.set_cons_succ, i64_w, i32_w]; rfl
                             refine dr_pure 6 (some 100) HT (v := ?_) (a' := ?_) rfl rfl (by kernel_rfl) (fun _ _ _ h => h) (.inl ⟨by rfl, ?_⟩) ?_ ?_
                             rotate_left
                             · intro w'; go_simp; with_reducible rfl
                             rotate_left
                             · simp only [Act.put, List.setIfInBounds_toArray, List.set_cons_zero, List.set_cons_succ, i64_w, i32_w]; rfl
                             refine dr_pure 7 (some 101) HT (v := ?_) (a' := ?_) rfl rfl (by kernel_rfl) (fun _ _ _ h => h) (.inl ⟨by rfl, ?_⟩) ?_ ?_
                             rotate_left
                             · intro w'; go_simp; with_reducible rfl
                             rotate_left
                             · simp only [Act.put, List.setIfInBounds_toArray, List.set_cons_zero, List.set_cons_succ, i64_w, i32_w]; rfl
                             refine dr_one 8 HT rfl (by kernel_rfl) (by decide) (fun K hK => ?_)
                             refine if_wp (by rfl) ?_; refine wp_box HS (by first | (go_simp; done) | (go_simp; rfl)) rfl ?_; clear HS; (try clear F); intro g15 w15 HS; have F := HS.boxes; simp only [boxFacts, wrt, clr0, clr1, List.cons_append, List.nil_append, List.append_nil, List.set_cons_zero, List.set_cons_succ, and_true] at F
                             refine hK.out _ _ ⟨_, HS⟩ (fun HH => ?_)
                             clear hK K
                             refine norm_ (a' := ?_) ?_ ?_
                             rotate_left
                             · show Act.put _ (some 15) _ = _; simp only [Act.put, List.setIfInBounds_toArray, List.set_cons_zero, List.set_cons_succ, i64_w, i32_w, c31, c38, c42, c50]; rfl
                             refine dr_last 9 HT rfl (by kernel_rfl) (by decide) (fun K hK => ?_)
                             refine if_wp (by rfl) ?_; refine wp_store 15 0 HS (seg := [.string t304001.1.f0, .int .i64 t304001.1.f1, .int .i64 t304001.1.f2, .int .i64 t304001.1.f3, .int .i64 t304001.1.f4, .slice B304002 t304001.1.f5.length d304002, .string t304001.1.f6]) rfl rfl rfl rfl rfl rfl (by kernel_rfl) (by simp [wrt]) (by simp [Value.oneCell']) ?_; clear HS; (try clear F); intro w309001 HS; have F := HS.boxes; simp only [boxFacts, wrt, clr0, clr1, List.cons_append, List.nil_append, List.append_nil, List.set_cons_zero, List.set_cons_succ, and_true] at F
                             refine hK.out _ _ ?_
                             clear hK K
                             refine dr_pure 10 (some 16) HT (v := ?_) (a' := ?_) rfl rfl (by kernel_rfl) (fun _ _ _ h => h) (.inl ⟨by rfl, ?_⟩) ?_ ?_
                             rotate_left
                             · intro w'; go_simp; with_reducible rfl
                             rotate_left
                             · simp only [Act.put, List.setIfInBounds_toArray, List.set_cons_zero, List.set_cons_succ, i64_w, i32_w]; rfl
                             refine norm_ ?_ (hJ (.slice B301002 t301001.length d301002, .slice B303002 t303001.f5.length d303002, .slice B304002 t304001.1.f5.length d304002, g15) _ (HS.arr [some 0, some 1, some 2, some 3, some 4, some 5, some 6, some 7, some 8, some 9, some 10, some 11, some 12, some 13, some 14, some 15] (by decide)))
                             simp only [putAll, Act.put, List.setIfInBounds_toArray, List.set_cons_zero, List.set_cons_succ, i64_w, i32_w, c31, c38, c42, c50]
                             (try rfl)
                           · refine if_wp (by rfl) ?_; refine wp_box HS (by first | (go_simp; done) | (go_simp; rfl)) rfl ?_; clear HS; (try clear F); intro g15 w15 HS; have F := HS.boxes; simp only [boxFacts, wrt, clr0, clr1, List.cons_append, List.nil_append, List.append_nil, List.set_cons_zero, List.set_cons_succ, and_true] at F
                             refine hK.out _ _ ⟨_, HS⟩ (fun HH => ?_)
                             clear hK K
                             refine norm_ (a' := ?_) ?_ ?_
                             rotate_left
                             · show Act.put _ (some 15) _ = _; simp only [Act.put, List.setIfInBounds_toArray, List.set_cons_zero, List.set_cons_succ, i64_w, i32_w, c31, c38, c42, c50]; rfl
                             refine dr_one 4 HT rfl (by kernel_rfl) (by decide) (fun K hK => ?_)
                             refine goes_ Try.func58 (by kernel_rfl) rfl #[.slice B301002 t301001.length d301002, .agg #[.string t303001.f0, .int .i64 t303001.f1, .int .i64 t303001.f2, .int .i64 t303001.f3, .int .i64 t303001.f4, .slice B303002 t303001.f5.length d303002, .string t303001.f6]] (by rfl) rfl rfl (by simp only [List.map_toArray, List.map_cons, List.map_nil]; rfl) ?_; refine (impl_DeltaOf.calls ht304001.out (HS.rd 12 rfl) m301002 (HS.rd 13 rfl) m303002).mono ?_; rintro _ wt304001 ⟨v304002, rfl, HQ⟩; refine ⟨_, rfl, ?_⟩; replace HS := HS.call HQ; clear HQ; (try clear F); obtain ⟨B304002, d304002, rfl, m304002⟩ := HS.form 15 rfl; have F := HS.boxes; simp only [boxFacts, wrt, clr0, clr1, List.cons_append, List.nil_append, List.append_nil, List.set_cons_zero, List.set_cons_succ, and_true] at F
                             refine hK.out _ _ ⟨_, HS⟩ (fun HH => ?_)
                             clear hK K
                             refine norm_ (a' := ?_) ?_ ?_
                             rotate_left
                             · show Act.put _ (some 99) _ = _; simp only [Act.put, List.setIfInBounds_toArray, List.set_cons_zero, List.set_cons_succ, i64_w, i32_w, c31, c38, c42, c50]; rfl
                             refine dr_pure 5 (some 94) HT (v := ?_) (a' := ?_) rfl rfl (by kernel_rfl) (fun _ _ _ h => h) (.inl ⟨by rfl, ?_⟩) ?_ ?_
                             rotate_left
                             · intro w'; go_simp; with_reducible rfl
                             rotate_left
                             · simp only [Act.put, List.setIfInBounds_toArray, List.set_cons_zero, List.set_cons_succ, i64_w, i32_w]; rfl
                             refine dr_pure 6 (some 100) HT (v := ?_) (a' := ?_) rfl rfl (by kernel_rfl) (fun _ _ _ h => h) (.inl ⟨by rfl, ?_⟩) ?_ ?_
                             rotate_left
                             · intro w'; go_simp; with_reducible rfl
                             rotate_left
                             · simp only [Act.put, List.setIfInBounds_toArray, List.set_cons_zero, List.set_cons_succ, i64_w, i32_w]; rfl
                             refine dr_pure 7 (some 101) HT (v := ?_) (a' := ?_) rfl rfl (by kernel_rfl) (fun _ _ _ h => h) (.inl ⟨by rfl, ?_⟩) ?_ ?_
                             rotate_left
                             · intro w'; go_simp; with_reducible rfl
                             rotate_left
                             · simp only [Act.put, List.setIfInBounds_toArray, List.set_cons_zero, List.set_cons_succ, i64_w, i32_w]; rfl
                             refine dr_last 9 HT rfl (by kernel_rfl) (by decide) (fun K hK => ?_)
                             refine if_wp (by rfl) ?_; refine wp_store 14 0 HS (seg := [.string t304001.1.f0, .int .i64 t304001.1.f1, .int .i64 t304001.1.f2, .int .i64 t304001.1.f3, .int .i64 t304001.1.f4, .slice B304002 t304001.1.f5.length d304002, .string t304001.1.f6]) rfl rfl rfl rfl rfl rfl (by kernel_rfl) (by simp [wrt]) (by simp [Value.oneCell']) ?_; clear HS; (try clear F); intro w309001 HS; have F := HS.boxes; simp only [boxFacts, wrt, clr0, clr1, List.cons_append, List.nil_append, List.append_nil, List.set_cons_zero, List.set_cons_succ, and_true] at F
                             refine hK.out _ _ ?_
                             clear hK K
                             refine dr_pure 10 (some 16) HT (v := ?_) (a' := ?_) rfl rfl (by kernel_rfl) (fun _ _ _ h => h) (.inl ⟨by rfl, ?_⟩) ?_ ?_
                             rotate_left
                             · intro w'; go_simp; with_reducible rfl
                             rotate_left
                             · simp only [Act.put, List.setIfInBounds_toArray, List.set_cons_zero, List.set_cons_succ, i64_w, i32_w]; rfl
                             refine norm_ ?_ (hJ (.slice B301002 t301001.length d301002, .slice B303002 t303001.f5.length d303002, .slice B304002 t304001.1.f5.length d304002, g15) _ (HS.arr [some 0, some 1, some 2, some 3, some 4, some 5, some 6, some 7, some 8, some 9, some 10, some 11, some 12, some 13, some 15, some 14] (by decide)))
                             simp only [putAll, Act.put, List.setIfInBounds_toArray, List.set_cons_zero, List.set_cons_succ, i64_w, i32_w, c31, c38, c42, c50]
                             (try rfl)
                         · refine if_wp (by rfl) ?_; refine wp_box HS (by first | (go_simp; done) | (go_simp; rfl)) rfl ?_; clear HS; (try clear F); intro g15 w15 HS; have F := HS.boxes; simp only [boxFacts, wrt, clr0, clr1, List.cons_append, List.nil_append, List.append_nil, List.set_cons_zero, List.set_cons_succ, and_true] at F
                           refine hK.out _ _ ⟨_, HS⟩ (fun HH => ?_)
                           clear hK K
                           refine norm_ (a' := ?_) ?_ ?_
                           rotate_left
                           · show Act.put _ (some 15) _ = _; simp only [Act.put, List.setIfInBounds_toArray, List.set_cons_zero, List.set_cons_succ, i64_w, i32_w, c31, c38, c42, c50]; rfl
                           refine dr_one 3 HT rfl (by kernel_rfl) (by decide) (fun K hK => ?_)
                           refine goes_ Try.func31 (by kernel_rfl) rfl #[.agg #[.string a1.f0, .int .i64 a1.f1, .int .i64 a1.f2, .int .i64 a1.f3, .int .i64 a1.f4, .slice Ap1 a1.f5.length cp1, .string a1.f6]] (by rfl) rfl rfl (by simp only [List.map_toArray, List.map_cons, List.map_nil]; rfl) ?_; refine (laws_toCrl.calls ht303001.out (HS.ro gp1) lp1).mono ?_; rintro _ wt303001 ⟨v303002, rfl, HQ⟩; refine ⟨_, rfl, ?_⟩; replace HS := HS.call HQ; clear HQ; (try clear F); obtain ⟨B303002, d303002, rfl, m303002⟩ := HS.form 14 rfl; have F := HS.boxes; simp only [boxFacts, wrt, clr0, clr1, List.cons_append, List.nil_append, List.append_nil, List.set_cons_zero, List.set_cons_succ, and_true] at F
                           refine hK.out _ _ ⟨_, HS⟩ (fun HH => ?_)
                           clear hK K
                           refine norm_ (a' := ?_) ?_ ?_
                           rotate_left
                           · show Act.put _ (some 98) _ = _; simp only [Act.put, List.setIfInBounds_toArray, List.set_cons_zero, List.set_cons_succ, i64_w, i32_w, c31, c38, c42, c50]; rfl
                           refine dr_one 4 HT rfl (by kernel_rfl) (by decide) (fun K hK => ?_)
                           refine goes_ Try.func58 (by kernel_rfl) rfl #[.slice B301002 t301001.length d301002, .agg #[.string t303001.f0, .int .i64 t303001.f1, .int .i64 t303001.f2, .int .i64 t303001.f3, .int .i64 t303001.f4, .slice B303002 t303001.f5.length d303002, .string t303001.f6]] (by rfl) rfl rfl (by simp only [List.map_toArray, List.map_cons, List.map_nil]; rfl) ?_; refine (impl_DeltaOf.calls ht304001.out (HS.rd 12 rfl) m301002 (HS.rd 14 rfl) m303002).mono ?_; rintro _ wt304001 ⟨v304002, rfl, HQ⟩; refine ⟨_, rfl, ?_⟩; replace HS := HS.call HQ; clear HQ; (try clear F); obtain ⟨B304002, d304002, rfl, m304002⟩ := HS.form 15 rfl; have F := HS.boxes; simp only [boxFacts, wrt, clr0, clr1, List.cons_append, List.nil_append, List.append_nil, List.set_cons_zero, List.set_cons_succ, and_true] at F
                           refine hK.out _ _ ⟨_, HS⟩ (fun HH => ?_)
                           clear hK K
                           refine norm_ (a' := ?_) ?_ ?_
                           rotate_left
                           · show Act.put _ (some 99) _ = _; simp only [Act.put, List.setIfInBounds_toArray, List.set_cons_zero, List.set_cons_succ, i64_w, i32_w, c31, c38, c42, c50]; rfl
                           refine dr_pure 5 (some 94) HT (v := ?_) (a' := ?_) rfl rfl (by kernel_rfl) (fun _ _ _ h => h) (.inl ⟨by rfl, ?_⟩) ?_ ?_
                           rotate_left
                           · intro w'; go_simp; with_reducible rfl
                           rotate_left
                           · simp only [Act.put, List.setIfInBounds_toArray, List.set_cons_zero, List.set_cons_succ, i64_w, i32_w]; rfl
                           refine dr_pure 6 (some 100) HT (v := ?_) (a' := ?_) rfl rfl (by kernel_rfl) (fun _ _ _ h => h) (.inl ⟨by rfl, ?_⟩) ?_ ?_
                           rotate_left
                           · intro w'; go_simp; with_reducible rfl
                           rotate_left
                           · simp only [Act.put, List.setIfInBounds_toArray, List.set_cons_zero, List.set_cons_succ, i64_w, i32_w]; rfl
                           refine dr_pure 7 (some 101) HT (v := ?_) (a' := ?_) rfl rfl (by kernel_rfl) (fun _ _ _ h => h) (.inl ⟨by rfl, ?_⟩) ?_ ?_
                           rotate_left
                           · intro w'; go_simp; with_reducible rfl
                           rotate_left
                           · simp only [Act.put, List.setIfInBounds_toArray, List.set_cons_zero, List.set_cons_succ, i64_w, i32_w]; rfl
                           refine dr_last 9 HT rfl (by kernel_rfl) (by decide) (fun K hK => ?_)
                           refine if_wp (by rfl) ?_; refine wp_store 13 0 HS (seg := [.string t304001.1.f0, .int .i64 t304001.1.f1, .int .i64 t304001.1.f2, .int .i64 t304001.1.f3, .int .i64 t304001.1.f4, .slice B304002 t304001.1.f5.length d304002, .string t304001.1.f6]) rfl rfl rfl rfl rfl rfl (by kernel_rfl) (by simp [wrt]) (by simp [Value.oneCell']) ?_; clear HS; (try clear F); intro w309001 HS; have F := HS.boxes; simp only [boxFacts, wrt, clr0, clr1, List.cons_append, List.nil_append, List.append_nil, List.set_cons_zero, List.set_cons_succ, and_true] at F
                           refine hK.out _ _ ?_
                           clear hK K
                           refine dr_pure 10 (some 16) HT (v := ?_) (a' := ?_) rfl rfl (by kernel_rfl) (fun _ _ _ h => h) (.inl ⟨by rfl, ?_⟩) ?_ ?_
                           rotate_left
                           · intro w'; go_simp; with_reducible rfl
                           rotate_left
                           · simp only [Act.put, List.setIfInBounds_toArray, List.set_cons_zero, List.set_cons_succ, i64_w, i32_w]; rfl
                           refine norm_ ?_ (hJ (.slice B301002 t301001.length d301002, .slice B303002 t303001.f5.length d303002, .slice B304002 t304001.1.f5.length d304002, g15) _ (HS.arr [some 0, some 1, some 2, some 3, some 4, some 5, some 6, some 7, some 8, some 9, some 10, some 11, some 12, some 14, some 15, some 13] (by decide)))
                           simp only [putAll, Act.put, List.setIfInBounds_toArray, List.set_cons_zero, List.set_cons_succ, i64_w, i32_w, c31, c38, c42, c50]
                           (try rfl)
                       · refine if_wp (by rfl) ?_; refine wp_box HS (by first | (go_simp; done) | (go_simp; rfl)) rfl ?_; clear HS; (try clear F); intro g15 w15 HS; have F := HS.boxes; simp only [boxFacts, wrt, clr0, clr1, List.cons_append, List.nil_append, List.append_nil, List.set_cons_zero, List.set_cons_succ, and_true] at F
                         refine hK.out _ _ ⟨_, HS⟩ (fun HH => ?_)
                         clear hK K
                         refine norm_ (a' := ?_) ?_ ?_
                         rotate_left
                         · show Act.put _ (some 15) _ = _; simp only [Act.put, List.setIfInBounds_toArray, List.set_cons_zero, List.set_cons_succ, i64_w, i32_w, c31, c38, c42, c50]; rfl
                         refine dr_one 1 HT rfl (by kernel_rfl) (by decide) (fun K hK => ?_)
                         refine goes_ Try.func51 (by kernel_rfl) rfl #[.slice Ap0 a0.length cp0] (by rfl) rfl rfl (by simp only [List.map_toArray, List.map_cons, List.map_nil]; rfl) ?_; refine (laws_toCrlS.calls ht301001.out (HS.ro gp0) lp0).mono ?_; rintro _ wt301001 ⟨v301002, rfl, HQ⟩; refine ⟨_, rfl, ?_⟩; replace HS := HS.call HQ; clear HQ; (try clear F); obtain ⟨B301002, d301002, rfl, m301002⟩ := HS.form 13 rfl; have F := HS.boxes; simp only [boxFacts, wrt, clr0, clr1, List.cons_append, List.nil_append, List.append_nil, List.set_cons_zero, List.set_cons_succ, and_true] at F
                         refine hK.out _ _ ⟨_, HS⟩ (fun HH => ?_)
                         clear hK K
                         refine norm_ (a' := ?_) ?_ ?_
                         rotate_left
                         · show Act.put _ (some 96) _ = _; simp only [Act.put, List.setIfInBounds_toArray, List.set_cons_zero, List.set_cons_succ, i64_w, i32_w, c31, c38, c42, c50]; rfl
                         refine dr_one 3 HT rfl (by kernel_rfl) (by decide) (fun K hK => ?_)
                         refine goes_ Try.func31 (by kernel_rfl) rfl #[.agg #[.string a1.f0, .int .i64 a1.f1, .int .i64 a1.f2, .int .i64 a1.f3, .int .i64 a1.f4, .slice Ap1 a1.f5.length cp1, .string a1.f6]] (by rfl) rfl rfl (by simp only [List.map_toArray, List.map_cons, List.map_nil]; rfl) ?_; refine (laws_toCrl.calls ht303001.out (HS.ro gp1) lp1).mono ?_; rintro _ wt303001 ⟨v303002, rfl, HQ⟩; refine ⟨_, rfl, ?_⟩; replace HS := HS.call HQ; clear HQ; (try clear F); obtain ⟨B303002, d303002, rfl, m303002⟩ := HS.form 14 rfl; have F := HS.boxes; simp only [boxFacts, wrt, clr0, clr1, List.cons_append, List.nil_append, List.append_nil, List.set_cons_zero, List.set_cons_succ, and_true] at F
                         refine hK.out _ _ ⟨_, HS⟩ (fun HH => ?_)
                         clear hK K
                         refine norm_ (a' := ?_) ?_ ?_
                         rotate_left
                         · show Act.put _ (some 98) _ = _; simp only [Act.put, List.setIfInBounds_toArray, List.set_cons_zero, List.set_cons_succ, i64_w, i32_w, c31, c38, c42, c50]; rfl
                         refine dr_one 4 HT rfl (by kernel_rfl) (by decide) (fun K hK => ?_)
                         refine goes_ Try.func58 (by kernel_rfl) rfl #[.slice B301002 t301001.length d301002, .agg #[.string t303001.f0, .int .i64 t303001.f1, .int .i64 t303001.f2, .int .i64 t303001.f3, .int .i64 t303001.f4, .slice B303002 t303001.f5.length d303002, .string t303001.f6]] (by rfl) rfl rfl (by simp only [List.map_toArray, List.map_cons, List.map_nil]; rfl) ?_; refine (impl_DeltaOf.calls ht304001.out (HS.rd 13 rfl) m301002 (HS.rd 14 rfl) m303002).mono ?_; rintro _ wt304001 ⟨v304002, rfl, HQ⟩; refine ⟨_, rfl, ?_⟩; replace HS := HS.call HQ; clear HQ; (try clear F); obtain ⟨B304002, d304002, rfl, m304002⟩ := HS.form 15 rfl; have F := HS.boxes; simp only [boxFacts, wrt, clr0, clr1, List.cons_append, List.nil_append, List.append_nil, List.set_cons_zero, List.set_cons_succ, and_true] at F
                         refine hK.out _ _ ⟨_, HS⟩ (fun HH => ?_)
                         clear hK K
                         refine norm_ (a' := ?_) ?_ ?_
                         rotate_left
                         · show Act.put _ (some 99) _ = _; simp only [Act.put, List.setIfInBounds_toArray, List.set_cons_zero, List.set_cons_succ, i64_w, i32_w, c31, c38, c42, c50]; rfl
                         refine dr_pure 5 (some 94) HT (v := ?_) (a' := ?_) rfl rfl (by kernel_rfl) (fun _ _ _ h => h) (.inl ⟨by rfl, ?_⟩) ?_ ?_
                         rotate_left
                         · intro w'; go_simp; with_reducible rfl
                         rotate_left
                         · simp only [Act.put, List.setIfInBounds_toArray, List.set_cons_zero, List.set_cons_succ, i64_w, i32_w]; rfl
                         refine dr_pure 6 (some 100) HT (v := ?_) (a' := ?_) rfl rfl (by kernel_rfl) (fun _ _ _ h => h) (.inl ⟨by rfl, ?_⟩) ?_ ?_
                         rotate_left
                         · intro w'; go_simp; with_reducible rfl
                         rotate_left
                         · simp only [Act.put, List.setIfInBounds_toArray, List.set_cons_zero, List.set_cons_succ, i64_w, i32_w]; rfl
                         refine dr_pure 7 (some 101) HT (v := ?_) (a' := ?_) rfl rfl (by kernel_rfl) (fun _ _ _ h => h) (.inl ⟨by rfl, ?_⟩) ?_ ?_
                         rotate_left
                         · intro w'; go_simp; with_reducible rfl
                         rotate_left
                         · simp only [Act.put, List.setIfInBounds_toArray, List.set_cons_zero, List.set_cons_succ, i64_w, i32_w]; rfl
                         refine dr_last 9 HT rfl (by kernel_rfl) (by decide) (fun K hK => ?_)
                         refine if_wp (by rfl) ?_; refine wp_store 12 0 HS (seg := [.string t304001.1.f0, .int .i64 t304001.1.f1, .int .i64 t304001.1.f2, .int .i64 t304001.1.f3, .int .i64 t304001.1.f4, .slice B304002 t304001.1.f5.length d304002, .string t304001.1.f6]) rfl rfl rfl rfl rfl rfl (by kernel_rfl) (by simp [wrt]) (by simp [Value.oneCell']) ?_; clear HS; (try clear F); intro w309001 HS; have F := HS.boxes; simp only [boxFacts, wrt, clr0, clr1, List.cons_append, List.nil_append, List.append_nil, List.set_cons_zero, List.set_cons_succ, and_true] at F
                         refine hK.out _ _ ?_
                         clear hK K
                         refine dr_pure 10 (some 16) HT (v := ?_) (a' := ?_) rfl rfl (by kernel_rfl) (fun _ _ _ h => h) (.inl ⟨by rfl, ?_⟩) ?_ ?_
                         rotate_left
                         · intro w'; go_simp; with_reducible rfl
                         rotate_left
                         · simp only [Act.put, List.setIfInBounds_toArray, List.set_cons_zero, List.set_cons_succ, i64_w, i32_w]; rfl
                         refine norm_ ?_ (hJ (.slice B301002 t301001.length d301002, .slice B303002 t303001.f5.length d303002, .slice B304002 t304001.1.f5.length d304002, g15) _ (HS.arr [some 0, some 1, some 2, some 3, some 4, some 5, some 6, some 7, some 8, some 9, some 10, some 11, some 13, some 14, some 15, some 12] (by decide)))
                         simp only [putAll, Act.put, List.setIfInBounds_toArray, List.set_cons_zero, List.set_cons_succ, i64_w, i32_w, c31, c38, c42, c50]
                         (try rfl)
                     rintro ⟨v301002, v303002, v304002, g15⟩ w399999 HS
                     obtain ⟨B301002, d301002, rfl, m301002⟩ := HS.form 12 rfl
                     obtain ⟨B303002, d303002, rfl, m303002⟩ := HS.form 13 rfl
                     obtain ⟨B304002, d304002, rfl, m304002⟩ := HS.form 14 rfl
                     have F := HS.boxes; simp only [boxFacts, wrt, clr0, clr1, List.cons_append, List.nil_append, List.append_nil, List.set_cons_zero, List.set_cons_succ, and_true] at F
                     refine norm_ (a' := ?_) ?_ ?_
                     rotate_left
                     · simp only [putAll, Act.put, List.setIfInBounds_toArray, List.set_cons_zero, List.set_cons_succ, i64_w, i32_w, c31, c38, c42, c50]; rfl
                     refine done_ (done_of HT.out (by kernel_rfl)) ?_
                     obtain ⟨t60, ht60, H⟩ := zbind H
                     by_cases c62 : t60 = true
                     · replace H := zpos c62 H
                       go_upto_if 110 with (first | ((with_reducible refine gate_dst (N := 104) rfl ?_); refine ev_call rfl Try.func33 (by kernel_rfl) rfl #[.agg #[.string t304001.1.f0, .int .i64 t304001.1.f1, .int .i64 t304001.1.f2, .int .i64 t304001.1.f3, .int .i64 t304001.1.f4, .slice B304002 t304001.1.f5.length d304002, .string t304001.1.f6], .agg #[.string t104001.1.f0, .int .i64 t104001.1.f1, .int .i64 t104001.1.f2, .int .i64 t104001.1.f3, .int .i64 t104001.1.f4, .slice B104002 t104001.1.f5.length d104002, .string t104001.1.f6]] rfl (by simp only [List.map_toArray, List.map_cons, List.map_nil]; rfl) ?_; refine (laws_eqCrl.calls ht60.out (HS.rd 14 rfl) m304002 (HS.rd 3 rfl) m104002).mono ?_; rintro _ wt60 ⟨rfl, HQ⟩; refine ⟨_, rfl, ?_⟩; replace HS := HS.call HQ; clear HQ; (try clear F); have F := HS.boxes; simp only [boxFacts, wrt, clr0, clr1, List.cons_append, List.nil_append, List.append_nil, List.set_cons_zero, List.set_cons_succ, and_true] at F; (try simp only [c62])))
                       by_cases c63 : t304001.2 = t104001.2
                       · replace H := zpos c63 H
                         have c63a := beq_iff_eq.mpr c63
                         have c63b := bne_eq_false_iff_eq.mpr c63
                         clear c63
                         (try simp only [c63a, c63b, decide_true, decide_false, Bool.not_true, Bool.not_false])
                         obtain ⟨t64, ht64, H⟩ := zbind H
                         go_upto_if 115 with (first | ((with_reducible refine gate_dst (N := 113) rfl ?_); refine ev_call rfl Try.func56 (by kernel_rfl) rfl #[.agg #[.string t22.1.f0, .int .i64 t22.1.f1, .int .i64 t22.1.f2, .int .i64 t22.1.f3, .int .i64 t22.1.f4, .slice B23 t22.1.f5.length d23, .string t22.1.f6], .int .i64 1] rfl (by simp only [List.map_toArray, List.map_cons, List.map_nil]; rfl) ?_; refine (laws_heldCrl.calls ht64.out (HS.rd 8 rfl) m23).mono ?_; rintro _ wt64 ⟨rfl, HQ⟩; refine ⟨_, rfl, ?_⟩; replace HS := HS.call HQ; clear HQ; (try clear F); have F := HS.boxes; simp only [boxFacts, wrt, clr0, clr1, List.cons_append, List.nil_append, List.append_nil, List.set_cons_zero, List.set_cons_succ, and_true] at F))
                         by_cases c66 : t64 < 0
                         · replace H := zpos c66 H
                           replace c66 := eq_true c66
                           (try simp only [c66, decide_true, decide_false, Bool.not_true, Bool.not_false])
                           obtain rfl := zsome H
                           go_wp2
                           go_ret
                           exact ⟨rfl, HS.pick [] (by decide) (by rfl)⟩
                         · replace H := zneg c66 H
                           replace c66 := eq_false c66
                           (try simp only [c66, decide_true, decide_false, Bool.not_true, Bool.not_false])
                           by_cases c67 : t64 = t51.1
                           · replace H := zpos c67 H
                             have c67a := beq_iff_eq.mpr c67
                             have c67b := bne_eq_false_iff_eq.mpr c67
                             clear c67
                             (try simp only [c67a, c67b, decide_true, decide_false, Bool.not_true, Bool.not_false])
                             obtain rfl := zsome H
                             go_wp2
                             go_ret
                             exact ⟨rfl, HS.pick [] (by decide) (by rfl)⟩
                           · replace H := zneg c67 H
                             have c67a := beq_eq_false_iff_ne.mpr c67
                             have c67b := bne_iff_ne.mpr c67
                             clear c67
                             (try simp only [c67a, c67b, decide_true, decide_false, Bool.not_true, Bool.not_false])
                             obtain rfl := zsome H
                             go_wp2
                             go_ret
                             exact ⟨rfl, HS.pick [] (by decide) (by rfl)⟩
                       · replace H := zneg c63 H
                         have c63a := beq_eq_false_iff_ne.mpr c63
                         have c63b := bne_iff_ne.mpr c63
                         clear c63
                         (try simp only [c63a, c63b, decide_true, decide_false, Bool.not_true, Bool.not_false])
                         obtain rfl := zsome H
                         go_wp2
                         go_ret
                         exact ⟨rfl, HS.pick [] (by decide) (by rfl)⟩
                     · replace H := zneg c62 H
                       replace c62 := eq_false_of_ne_true c62
                       obtain rfl := zsome H
                       go_wp2_with (first | ((with_reducible refine gate_dst (N := 104) rfl ?_); refine ev_call rfl Try.func33 (by kernel_rfl) rfl #[.agg #[.string t304001.1.f0, .int .i64 t304001.1.f1, .int .i64 t304001.1.f2, .int .i64 t304001.1.f3, .int .i64 t304001.1.f4, .slice B304002 t304001.1.f5.length d304002, .string t304001.1.f6], .agg #[.string t104001.1.f0, .int .i64 t104001.1.f1, .int .i64 t104001.1.f2, .int .i64 t104001.1.f3, .int .i64 t104001.1.f4, .slice B104002 t104001.1.f5.length d104002, .string t104001.1.f6]] rfl (by simp only [List.map_toArray, List.map_cons, List.map_nil]; rfl) ?_; refine (laws_eqCrl.calls ht60.out (HS.rd 14 rfl) m304002 (HS.rd 3 rfl) m104002).mono ?_; rintro _ wt60 ⟨rfl, HQ⟩; refine ⟨_, rfl, ?_⟩; replace HS := HS.call HQ; clear HQ; (try clear F); have F := HS.boxes; simp only [boxFacts, wrt, clr0, clr1, List.cons_append, List.nil_append, List.append_nil, List.set_cons_zero, List.set_cons_succ, and_true] at F; (try simp only [c62])))
                       go_ret
                       exact ⟨rfl, HS.pick [] (by decide) (by rfl)⟩
                   · replace H := zneg c56 H
                     have c56a := beq_eq_false_iff_ne.mpr c56
                     have c56b := bne_iff_ne.mpr c56
                     clear c56
                     (try simp only [c56a, c56b, decide_true, decide_false, Bool.not_true, Bool.not_false])
                     obtain rfl := zsome H
                     go_wp2
                     go_ret
                     exact ⟨rfl, HS.pick [] (by decide) (by rfl)⟩
               · replace H := zneg c50 H
                 replace c50 := eq_false_of_ne_true c50
                 obtain rfl := zsome H
                 go_wp2_with (first | ((with_reducible refine gate_dst (N := 66) rfl ?_); refine HS.lend [5] (by decide) [.own (Zd.slice 54 q54) t12 [.slice B13 t12.length d13]] rfl (fun A' HA HB => ?_); refine ev_call rfl Try.func54 (by kernel_rfl) rfl #[.slice B13 t12.length d13, .int .i64 1] rfl (by simp only [List.map_toArray, List.map_cons, List.map_nil]; rfl) ?_; refine (laws_markCrlS.calls ht43.out HA).mono ?_; rintro _ wt43 ⟨rfl, HQ⟩; refine ⟨_, rfl, ?_⟩; replace HS : Hp noFP w _ [.box g3 [.string a1.f0, .int .i64 a1.f1, .int .i64 a1.f2, .int .i64 a1.f3, .int .i64 a1.f4, .slice Ap1 a1.f5.length cp1, .string a1.f6] 49, .own (Zd.slice 54 q54) t101001 [.slice B101002 t101001.length d101002], .own (Zd.slice 119 q119) t103001.f5 [.slice B103002 t103001.f5.length d103002], .own (Zd.slice 119 q119) t104001.1.f5 [.slice B104002 t104001.1.f5.length d104002], .box g6 [.string t104001.1.f0, .int .i64 t104001.1.f1, .int .i64 t104001.1.f2, .int .i64 t104001.1.f3, .int .i64 t104001.1.f4, .slice B104002 t104001.1.f5.length d104002, .string t104001.1.f6] 54, .own (Zd.slice 54 q54) t43.2 [.slice B13 t12.length d13], .own (Zd.slice 119 q119) t15.f5 [.slice B16 t15.f5.length d16], .box g9 [.string t15.f0, .int .i64 t15.f1, .int .i64 t15.f2, .int .i64 t15.f3, .int .i64 t15.f4, .slice B16 t15.f5.length d16, .string t15.f6] 54, .own (Zd.slice 119 q119) t22.1.f5 [.slice B23 t22.1.f5.length d23], .box g10 [.string t22.1.f0, .int .i64 t22.1.f1, .int .i64 t22.1.f2, .int .i64 t22.1.f3, .int .i64 t22.1.f4, .slice B23 t22.1.f5.length d23, .string t22.1.f6] 54, .own (Zd.slice 54 q54) t33 [.slice B34 t33.length d34], .own (Zd.slice 119 q119) t202001.f5 [.slice B202002 t202001.f5.length d202002]] := HB _ _ HQ (Nat.le_of_ble_eq_true rfl); clear HQ HA HB; (try clear F); have F := HS.boxes; simp only [boxFacts, wrt, clr0, clr1, List.cons_append, List.nil_append, List.append_nil, List.set_cons_zero, List.set_cons_succ, and_true] at F) | ((with_reducible refine gate_dst (N := 69) rfl ?_); refine HS.lend [6] (by decide) [.own (Zd.slice 119 q119) t15.f5 [.slice B16 t15.f5.length d16]] rfl (fun A' HA HB => ?_); refine ev_call rfl Try.func55 (by kernel_rfl) rfl #[.agg #[.string t15.f0, .int .i64 t15.f1, .int .i64 t15.f2, .int .i64 t15.f3, .int .i64 t15.f4, .slice B16 t15.f5.length d16, .string t15.f6], .int .i64 t43.1] rfl (by simp only [List.map_toArray, List.map_cons, List.map_nil]; rfl) ?_; refine (laws_markCrl.calls ht45.out HA).mono ?_; rintro _ wt45 ⟨rfl, HQ⟩; refine ⟨_, rfl, ?_⟩; replace HS : Hp noFP w _ [.box g3 [.string a1.f0, .int .i64 a1.f1, .int .i64 a1.f2, .int .i64 a1.f3, .int .i64 a1.f4, .slice Ap1 a1.f5.length cp1, .string a1.f6] 49, .own (Zd.slice 54 q54) t101001 [.slice B101002 t101001.length d101002], .own (Zd.slice 119 q119) t103001.f5 [.slice B103002 t103001.f5.length d103002], .own (Zd.slice 119 q119) t104001.1.f5 [.slice B104002 t104001.1.f5.length d104002], .box g6 [.string t104001.1.f0, .int .i64 t104001.1.f1, .int .i64 t104001.1.f2, .int .i64 t104001.1.f3, .int .i64 t104001.1.f4, .slice B104002 t104001.1.f5.length d104002, .string t104001.1.f6] 54, .own (Zd.slice 54 q54) t43.2 [.slice B13 t12.length d13], .own (Zd.slice 119 q119) t45.2 [.slice B16 t15.f5.length d16], .box g9 [.string t15.f0, .int .i64 t15.f1, .int .i64 t15.f2, .int .i64 t15.f3, .int .i64 t15.f4, .slice B16 t15.f5.length d16, .string t15.f6] 54, .own (Zd.slice 119 q119) t22.1.f5 [.slice B23 t22.1.f5.length d23], .box g10 [.string t22.1.f0, .int .i64 t22.1.f1, .int .i64 t22.1.f2, .int .i64 t22.1.f3, .int .i64 t22.1.f4, .slice B23 t22.1.f5.length d23, .string t22.1.f6] 54, .own (Zd.slice 54 q54) t33 [.slice B34 t33.length d34], .own (Zd.slice 119 q119) t202001.f5 [.slice B202002 t202001.f5.length d202002]] := HB _ _ HQ (Nat.le_of_ble_eq_true rfl); clear HQ HA HB; (try clear F); have F := HS.boxes; simp only [boxFacts, wrt, clr0, clr1, List.cons_append, List.nil_append, List.append_nil, List.set_cons_zero, List.set_cons_succ, and_true] at F) | ((with_reducible refine gate_dst (N := 75) rfl ?_); refine gate_guard (by rfl) ?_; refine ev_call rfl Try.func33 (by kernel_rfl) rfl #[.agg #[.string t22.1.f0, .int .i64 t22.1.f1, .int .i64 t22.1.f2, .int .i64 t22.1.f3, .int .i64 t22.1.f4, .slice B23 t22.1.f5.length d23, .string t22.1.f6], .agg #[.string t104001.1.f0, .int .i64 t104001.1.f1, .int .i64 t104001.1.f2, .int .i64 t104001.1.f3, .int .i64 t104001.1.f4, .slice B104002 t104001.1.f5.length d104002, .string t104001.1.f6]] rfl (by simp only [List.map_toArray, List.map_cons, List.map_nil]; rfl) ?_; refine (laws_eqCrl.calls ht48.out (HS.rd 8 rfl) m23 (HS.rd 3 rfl) m104002).mono ?_; rintro _ wt48 ⟨rfl, HQ⟩; refine ⟨_, rfl, ?_⟩; replace HS := HS.call HQ; clear HQ; (try clear F); have F := HS.boxes; simp only [boxFacts, wrt, clr0, clr1, List.cons_append, List.nil_append, List.append_nil, List.set_cons_zero, List.set_cons_succ, and_true] at F; (try simp only [c50])))
                 go_ret
                 exact ⟨rfl, HS.pick [] (by decide) (by rfl)⟩
           · replace H := zneg c42 H
             replace c42 := eq_false_of_ne_true c42
             (try simp only [c42, decide_true, decide_false, Bool.not_true, Bool.not_false])
             obtain rfl := zsome H
             go_wp2
             go_ret
             exact ⟨rfl, HS.pick [] (by decide) (by rfl)⟩
         · replace H := zneg c38 H
           replace c38 := eq_false_of_ne_true c38
           (try simp only [c38, decide_true, decide_false, Bool.not_true, Bool.not_false])
           obtain rfl := zsome H
           go_wp2
           go_ret
           exact ⟨rfl, HS.pick [] (by decide) (by rfl)⟩
       · replace H := zneg c32 H
         have c32a := beq_eq_false_iff_ne.mpr c32
         have c32b := bne_iff_ne.mpr c32
         clear c32
         (try simp only [c32a, c32b, decide_true, decide_false, Bool.not_true, Bool.not_false])
         obtain rfl := zsome H
         go_wp2
         go_ret
         exact ⟨rfl, HS.pick [] (by decide) (by rfl)⟩
     · replace H := zneg c31 H
       replace c31 := eq_false_of_ne_true c31
       obtain rfl := zsome H
       go_wp2_with (first | ((with_reducible refine gate_dst (N := 36) rfl ?_); refine ev_call rfl Try.func51 (by kernel_rfl) rfl #[.slice Ap0 a0.length cp0] rfl (by simp only [List.map_toArray, List.map_cons, List.map_nil]; rfl) ?_; refine (laws_toCrlS.calls ht12.out (HS.ro gp0) lp0).mono ?_; rintro _ wt12 ⟨v13, rfl, HQ⟩; refine ⟨_, rfl, ?_⟩; replace HS := HS.call HQ; clear HQ; (try clear F); obtain ⟨B13, d13, rfl, m13⟩ := HS.form 5 rfl; have F := HS.boxes; simp only [boxFacts, wrt, clr0, clr1, List.cons_append, List.nil_append, List.append_nil, List.set_cons_zero, List.set_cons_succ, and_true] at F) | ((with_reducible refine gate_dst (N := 38) rfl ?_); refine ev_call rfl Try.func31 (by kernel_rfl) rfl #[.agg #[.string a1.f0, .int .i64 a1.f1, .int .i64 a1.f2, .int .i64 a1.f3, .int .i64 a1.f4, .slice Ap1 a1.f5.length cp1, .string a1.f6]] rfl (by simp only [List.map_toArray, List.map_cons, List.map_nil]; rfl) ?_; refine (laws_toCrl.calls ht15.out (HS.ro gp1) lp1).mono ?_; rintro _ wt15 ⟨v16, rfl, HQ⟩; refine ⟨_, rfl, ?_⟩; replace HS := HS.call HQ; clear HQ; (try clear F); obtain ⟨B16, d16, rfl, m16⟩ := HS.form 6 rfl; have F := HS.boxes; simp only [boxFacts, wrt, clr0, clr1, List.cons_append, List.nil_append, List.append_nil, List.set_cons_zero, List.set_cons_succ, and_true] at F) | ((with_reducible refine gate_dst (N := 9) rfl ?_); refine ev_box rfl HS (by first | (go_simp; done) | (go_simp; rfl)) rfl ?_; clear HS; (try clear F); intro g9 w9 HS; have F := HS.boxes; simp only [boxFacts, wrt, clr0, clr1, List.cons_append, List.nil_append, List.append_nil, List.set_cons_zero, List.set_cons_succ, and_true] at F) | ((with_reducible refine gate_store (p := 9) rfl ?_); refine ev_store rfl 7 0 HS (seg := [.string t15.f0, .int .i64 t15.f1, .int .i64 t15.f2, .int .i64 t15.f3, .int .i64 t15.f4, .slice B16 t15.f5.length d16, .string t15.f6]) rfl rfl rfl rfl rfl rfl (by kernel_rfl) (by simp [wrt]) (by simp [Value.oneCell']) ?_; clear HS; (try clear F); intro w20 HS; have F := HS.boxes; simp only [boxFacts, wrt, clr0, clr1, List.cons_append, List.nil_append, List.append_nil, List.set_cons_zero, List.set_cons_succ, and_true] at F) | ((with_reducible refine gate_dst (N := 42) rfl ?_); refine ev_call rfl Try.func58 (by kernel_rfl) rfl #[.slice B13 t12.length d13, .agg #[.string t15.f0, .int .i64 t15.f1, .int .i64 t15.f2, .int .i64 t15.f3, .int .i64 t15.f4, .slice B16 t15.f5.length d16, .string t15.f6]] rfl (by simp only [List.map_toArray, List.map_cons, List.map_nil]; rfl) ?_; refine (impl_DeltaOf.calls ht22.out (HS.rd 5 rfl) m13 (HS.rd 6 rfl) m16).mono ?_; rintro _ wt22 ⟨v23, rfl, HQ⟩; refine ⟨_, rfl, ?_⟩; replace HS := HS.call HQ; clear HQ; (try clear F); obtain ⟨B23, d23, rfl, m23⟩ := HS.form 8 rfl; have F := HS.boxes; simp only [boxFacts, wrt, clr0, clr1, List.cons_append, List.nil_append, List.append_nil, List.set_cons_zero, List.set_cons_succ, and_true] at F) | ((with_reducible refine gate_dst (N := 10) rfl ?_); refine ev_box rfl HS (by first | (go_simp; done) | (go_simp; rfl)) rfl ?_; clear HS; (try clear F); intro g10 w10 HS; have F := HS.boxes; simp only [boxFacts, wrt, clr0, clr1, List.cons_append, List.nil_append, List.append_nil, List.set_cons_zero, List.set_cons_succ, and_true] at F) | ((with_reducible refine gate_store (p := 10) rfl ?_); refine ev_store rfl 9 0 HS (seg := [.string t22.1.f0, .int .i64 t22.1.f1, .int .i64 t22.1.f2, .int .i64 t22.1.f3, .int .i64 t22.1.f4, .slice B23 t22.1.f5.length d23, .string t22.1.f6]) rfl rfl rfl rfl rfl rfl (by kernel_rfl) (by simp [wrt]) (by simp [Value.oneCell']) ?_; clear HS; (try clear F); intro w27 HS; have F := HS.boxes; simp only [boxFacts, wrt, clr0, clr1, List.cons_append, List.nil_append, List.append_nil, List.set_cons_zero, List.set_cons_succ, and_true] at F) | ((with_reducible refine gate_dst (N := 47) rfl ?_); refine ev_call rfl Try.func33 (by kernel_rfl) rfl #[.agg #[.string t22.1.f0, .int .i64 t22.1.f1, .int .i64 t22.1.f2, .int .i64 t22.1.f3, .int .i64 t22.1.f4, .slice B23 t22.1.f5.length d23, .string t22.1.f6], .agg #[.string t104001.1.f0, .int .i64 t104001.1.f1, .int .i64 t104001.1.f2, .int .i64 t104001.1.f3, .int .i64 t104001.1.f4, .slice B104002 t104001.1.f5.length d104002, .string t104001.1.f6]] rfl (by simp only [List.map_toArray, List.map_cons, List.map_nil]; rfl) ?_; refine (laws_eqCrl.calls ht29.out (HS.rd 8 rfl) m23 (HS.rd 3 rfl) m104002).mono ?_; rintro _ wt29 ⟨rfl, HQ⟩; refine ⟨_, rfl, ?_⟩; replace HS := HS.call HQ; clear HQ; (try clear F); have F := HS.boxes; simp only [boxFacts, wrt, clr0, clr1, List.cons_append, List.nil_append, List.append_nil, List.set_cons_zero, List.set_cons_succ, and_true] at F; (try simp only [c31])))
       go_ret
       exact ⟨rfl, HS.pick [] (by decide) (by rfl)⟩
end Go.Proofs.Ytfeebnbookfpmaa.F
