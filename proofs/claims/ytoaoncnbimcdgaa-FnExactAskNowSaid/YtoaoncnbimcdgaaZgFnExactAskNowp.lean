/- Functions of the program and of the law, and that their calls do what is written here. -/
import Derived.Test.YtoaoncnbimcdgaaZgFnExactAskNowb
import Derived.Test.YtoaoncnbimcdgaaZgFnExactAskNowc
import Derived.Test.YtoaoncnbimcdgaaZgFnExactAskNowg
import Derived.Test.YtoaoncnbimcdgaaZgFnExactAskNowm
import Derived.Test.YtoaoncnbimcdgaaZgFnExactAskNown
import Derived.Test.YtoaoncnbimcdgaaZgFnExactAskNowo
namespace Go.Proofs.Ytoaoncnbimcdgaa.F
open Go.RowKit Go.Proofs.YtoaoncnbimcdgaaW.PrintWords Go.Proofs.YtoaoncnbimcdgaaW.PrintLast Go.Proofs.YtoaoncnbimcdgaaW.PrintMore Go.Proofs.Ytoaoncnbimcdgaa.Z
attribute [local go_sem] max2_int min2_int max_two min_two max_three min_three max_four min_four
set_option linter.unusedVariables false
set_option linter.unusedSimpArgs false
set_option maxRecDepth 100000
/-! ### laws_FnExactAskNow: function 6 -/
def laws_FnExactAskNow.f (k : Nat) (a0 : S26) (a1 : S75) (a2 : Int) (a3 : Int) : Option (Bool) := ((laws_szClient.f k a0 1048576).bind fun t5 => (if t5 < 0 then (some true) else ((laws_szAsk.f k a1 t5).bind fun t8 => (if t8 < 0 then (some true) else ((laws_toClient.f k a0).bind fun t101001 => ((laws_toAsk.f k a1).bind fun t103001 => ((spec_AskNow.f k t101001 t103001 a2 a3).bind fun t106001 => ((laws_toClient.f k a0).bind fun t14 => ((laws_toAsk.f k a1).bind fun t23 => ((impl_AskNow.f k t14 t23 a2 a3).bind fun t30 => ((laws_eqClient.f k t30.1 t106001.1).bind fun t39 => (if t39 = true then (if t30.2.1.toList = t106001.2.1.toList then (if t30.2.2 = t106001.2.2 then ((laws_toClient.f k a0).bind fun t202001 => ((laws_eqClient.f k t14 t202001).bind fun t203001 => (if t203001 = true then ((laws_toAsk.f k a1).bind fun t302001 => ((laws_eqAsk.f k t23 t302001).bind fun t303001 => (if t303001 = true then ((laws_markClient.f k t14 1).bind fun t52 => ((laws_markAsk.f k t23 t52.1).bind fun t54 => (if t54.1 < 0 then (some false) else ((laws_eqClient.f k t30.1 t106001.1).bind fun t57 => (if t57 = true then ((laws_markClient.f k t30.1 1).bind fun t60 => ((laws_heldClient.f k (⟨t30.1.f0, t30.1.f1, t60.2.1, t60.2.2.1, t60.2.2.2⟩ : S31) 1).bind fun t62 => (if t62 < 0 then (some false) else (if t62 = t60.1 then ((laws_toClient.f k a0).bind fun t401001 => ((laws_toAsk.f k a1).bind fun t403001 => ((impl_AskNow.f k t401001 t403001 a2 a3).bind fun t406001 => ((laws_eqClient.f k t406001.1 t106001.1).bind fun t69 => (if t69 = true then (if t406001.2.1.toList = t106001.2.1.toList then (if t406001.2.2 = t106001.2.2 then ((laws_heldClient.f k (⟨t30.1.f0, t30.1.f1, t60.2.1, t60.2.2.1, t60.2.2.2⟩ : S31) 1).bind fun t74 => (if t74 < 0 then (some false) else (if t74 = t60.1 then (some true) else (some false)))) else (some false)) else (some false)) else (some false)))))) else (some false))))) else (some false)))))) else (some false)))) else (some false)))) else (some false)) else (some false)) else (some false)))))))))))))
def laws_FnExactAskNow.T8 : Bool × List (List Nat × List Nat) := (true, [([], []), ([0], [0]), ([], []), ([2, 1], [2]), ([], []), ([], []), ([1, 3, 4, 5, 3], [1, 3, 4, 5]), ([6], [6]), ([7], [7]), ([7], [7]), ([7], [7]), ([], []), ([11, 8, 6, 0, 1, 2, 3, 4, 5, 6, 7, 8, 11], [8, 11]), ([9, 12, 0, 1, 2, 3, 4, 5, 6, 7, 8, 9, 11, 12], [9]), ([10, 13, 0, 1, 2, 3, 4, 5, 6, 7, 8, 9, 10, 11, 12, 13], [10])])
theorem laws_FnExactAskNow.tT8 : rtab .any (opsOf Try.f6 8) = laws_FnExactAskNow.T8 := by kernel_rfl
def laws_FnExactAskNow.T14 : Bool × List (List Nat × List Nat) := (true, [([], []), ([], []), ([1], [1]), ([0, 2, 2], [0, 2]), ([3], [3])])
theorem laws_FnExactAskNow.tT14 : rtab .any (opsOf Try.f6 14) = laws_FnExactAskNow.T14 := by kernel_rfl
def laws_FnExactAskNow.T16 : Bool × List (List Nat × List Nat) := (true, [([], []), ([], []), ([1], [1]), ([0, 2, 2], [0, 2]), ([3], [3])])
theorem laws_FnExactAskNow.tT16 : rtab .any (opsOf Try.f6 16) = laws_FnExactAskNow.T16 := by kernel_rfl
def laws_FnExactAskNow.T31 : Bool × List (List Nat × List Nat) := (true, [([], []), ([0], [0]), ([], []), ([2, 1], [2]), ([], []), ([], []), ([1, 3, 4, 5, 3], [1, 3, 4, 5]), ([6], [6]), ([7], [7]), ([7], [7]), ([7], [7]), ([], []), ([11, 8, 6, 0, 1, 2, 3, 4, 5, 6, 7, 8, 11], [8, 11]), ([9, 12, 0, 1, 2, 3, 4, 5, 6, 7, 8, 9, 11, 12], [9]), ([10, 13, 0, 1, 2, 3, 4, 5, 6, 7, 8, 9, 10, 11, 12, 13], [10])])
theorem laws_FnExactAskNow.tT31 : rtab .any (opsOf Try.f6 31) = laws_FnExactAskNow.T31 := by kernel_rfl
set_option maxHeartbeats 16000000 in
theorem laws_FnExactAskNow.calls {k : Nat} {a0 : S26} {a1 : S75} {a2 : Int} {a3 : Int} {Ap0 : Option Addr} {np0 cp0 : Nat} {Ap1 : Option Addr} {np1 cp1 : Nat} {Ap2 : Option Addr} {np2 cp2 : Nat} {Ap3 : Option Addr} {np3 cp3 : Nat} {r : Bool} {w : World} (h : laws_FnExactAskNow.f k a0 a1 a2 a3 = some r) (gp0 : k154.C w Ap0 np0 a0.f2) (lp0 : np0 ≤ cp0) (gp1 : k160.C w Ap1 np1 a0.f3) (lp1 : np1 ≤ cp1) (gp2 : (Kd.int .i64).C w Ap2 np2 a0.f4) (lp2 : np2 ≤ cp2) (gp3 : Kd.string.C w Ap3 np3 a1.f0) (lp3 : np3 ≤ cp3) :
    Calls Try.prog 6 #[.agg #[.string a0.f0, .int .i64 a0.f1, .slice Ap0 np0 cp0, .slice Ap1 np1 cp1, .slice Ap2 np2 cp2], .agg #[.slice Ap3 np3 cp3, .int .i64 a1.f1, .int .i64 a1.f2, .int .i64 a1.f3, .int .i64 a1.f4, .bool a1.f5], .int .i64 a2, .int .i64 a3] w (fun e w' => e = .returned (.bool r) ∧ Hp noFP w w' []) := by
 obtain rfl := C_len gp0
 obtain rfl := C_len gp1
 obtain rfl := C_len gp2
 obtain rfl := C_len gp3
 have HS := Hp.start w
 have H := Aside0.mk h
 clear h
 unfold laws_FnExactAskNow.f at H
 go_enter Try.func6, Try.ntmps6
 replace H := zbind H; obtain ⟨t5, ht5, H⟩ := H
 go_upto_if 28 with (first | ((with_reducible refine gate_dst (N := 4) rfl ?_); refine ev_box rfl HS (by first | (go_simp; done) | (go_simp; rfl)) rfl ?_; clear HS; (try clear F); intro g4 w4 HS; (try simp only [hpn, hpm] at HS); have F := HS.boxes; simp only [boxFacts, and_true] at F) | ((with_reducible refine gate_dst (N := 5) rfl ?_); refine ev_box rfl HS (by first | (go_simp; done) | (go_simp; rfl)) rfl ?_; clear HS; (try clear F); intro g5 w5 HS; (try simp only [hpn, hpm] at HS); have F := HS.boxes; simp only [boxFacts, and_true] at F) | ((with_reducible refine gate_dst (N := 26) rfl ?_); refine ev_call rfl Try.func7 (by kernel_rfl) rfl #[.agg #[.string a0.f0, .int .i64 a0.f1, .slice Ap0 a0.f2.length cp0, .slice Ap1 a0.f3.length cp1, .slice Ap2 a0.f4.length cp2], .int .i64 1048576] rfl (by simp only [List.map_toArray, List.map_cons, List.map_nil]; rfl) ?_; refine (laws_szClient.calls ht5.out (HS.ro gp0) lp0 (HS.ro gp1) lp1 (HS.ro gp2) lp2).mono ?_; rintro _ wt5 ⟨rfl, HQ⟩; refine ⟨_, rfl, ?_⟩; replace HS := HS.call HQ; clear HQ; (try clear F); (try simp only [hpn, hpm] at HS); have F := HS.boxes; simp only [boxFacts, and_true] at F))
 by_cases c7 : t5 < 0
 · replace H := zpos c7 H
   replace c7 := eq_true c7
   (try simp only [c7, dcn])
   obtain rfl := zsome H
   go_wp2
   go_ret
   exact ⟨rfl, HS.pick [] (by decide) (by rfl)⟩
 · replace H := zneg c7 H
   replace c7 := eq_false c7
   (try simp only [c7, dcn])
   replace H := zbind H; obtain ⟨t8, ht8, H⟩ := H
   go_upto_if 33 with (first | ((with_reducible refine gate_dst (N := 31) rfl ?_); refine ev_call rfl Try.func30 (by kernel_rfl) rfl #[.agg #[.slice Ap3 a1.f0.length cp3, .int .i64 a1.f1, .int .i64 a1.f2, .int .i64 a1.f3, .int .i64 a1.f4, .bool a1.f5], .int .i64 t5] rfl (by simp only [List.map_toArray, List.map_cons, List.map_nil]; rfl) ?_; refine (laws_szAsk.calls ht8.out (HS.ro gp3) lp3).mono ?_; rintro _ wt8 ⟨rfl, HQ⟩; refine ⟨_, rfl, ?_⟩; replace HS := HS.call HQ; clear HQ; (try clear F); (try simp only [hpn, hpm] at HS); have F := HS.boxes; simp only [boxFacts, and_true] at F))
   by_cases c10 : t8 < 0
   · replace H := zpos c10 H
     replace c10 := eq_true c10
     (try simp only [c10, dcn])
     obtain rfl := zsome H
     go_wp2
     go_ret
     exact ⟨rfl, HS.pick [] (by decide) (by rfl)⟩
   · replace H := zneg c10 H
     replace c10 := eq_false c10
     (try simp only [c10, dcn])
     (try go_wp2)
     replace H := zbind H; obtain ⟨t101001, ht101001, H⟩ := H
     replace H := zbind H; obtain ⟨t103001, ht103001, H⟩ := H
     replace H := zbind H; obtain ⟨t106001, ht106001, H⟩ := H
     refine dr_start [12] HS #[false, false, false, false, false, false, false, false, false, false, false, false, false, false, false] (by kernel_rfl) rfl rfl laws_FnExactAskNow.tT8 (fun w12 HT HS HH => ?_)
     (try clear F)
     refine join_ 0 #[true, true, true, true, true, true, true, true, true, true, true, true, true, true, true] (fun ((v101002, v101003, v101004, v103002, v106002, v106003, v106004, g10) : Value × Value × Value × Value × Value × Value × Value × Nat) => ([(35, .agg #[.string a0.f0, .int .i64 a0.f1, .slice Ap0 a0.f2.length cp0, .slice Ap1 a0.f3.length cp1, .slice Ap2 a0.f4.length cp2]), (36, .agg #[.string t101001.f0, .int .i64 t101001.f1, v101002, v101003, v101004]), (37, .agg #[.slice Ap3 a1.f0.length cp3, .int .i64 a1.f1, .int .i64 a1.f2, .int .i64 a1.f3, .int .i64 a1.f4, .bool a1.f5]), (38, .agg #[v103002, .int .i64 t103001.f1, .int .i64 t103001.f2, .int .i64 t103001.f3, .int .i64 t103001.f4, .bool t103001.f5]), (39, .int .i64 a2), (40, .int .i64 a3), (41, .tuple #[.agg #[.string t106001.1.f0, .int .i64 t106001.1.f1, v106002, v106003, v106004], .string t106001.2.1, .bool t106001.2.2]), (34, .tuple #[.agg #[.string t106001.1.f0, .int .i64 t106001.1.f1, v106002, v106003, v106004], .string t106001.2.1, .bool t106001.2.2]), (42, .agg #[.string t106001.1.f0, .int .i64 t106001.1.f1, v106002, v106003, v106004]), (43, .string t106001.2.1), (44, .bool t106001.2.2), (10, .pointer (some ⟨g10, 0, none⟩)), (11, .string t106001.2.1), (12, .bool t106001.2.2)] : List (Tmp × Value))) (fun ((v101002, v101003, v101004, v103002, v106002, v106003, v106004, g10) : Value × Value × Value × Value × Value × Value × Value × Nat) w' => Hp noFP w w' [.box g4 [.string a0.f0, .int .i64 a0.f1, .slice Ap0 a0.f2.length cp0, .slice Ap1 a0.f3.length cp1, .slice Ap2 a0.f4.length cp2] 26, .box g5 [.slice Ap3 a1.f0.length cp3, .int .i64 a1.f1, .int .i64 a1.f2, .int .i64 a1.f3, .int .i64 a1.f4, .bool a1.f5] 75, .own (Zd.slice 89 q89) t101001.f2 [v101002], .own (Zd.slice 150 q150) t101001.f3 [v101003], .own (Zd.slice 3 (Zd.int .i64)) t101001.f4 [v101004], .own (Zd.slice 9 Zd.string) t103001.f0 [v103002], .own (Zd.slice 89 q89) t106001.1.f2 [v106002], .own (Zd.slice 150 q150) t106001.1.f3 [v106003], .own (Zd.slice 3 (Zd.int .i64)) t106001.1.f4 [v106004], .box g10 [.string t106001.1.f0, .int .i64 t106001.1.f1, v106002, v106003, v106004] 31]) ?_ ?_
     rotate_left
     · intro hJ
       refine drq_of [(0, some 35), (2, some 37), (4, some 39), (5, some 40)] ?_
       repeat (first | (refine drq_pure HT (v := ?_) (a' := ?_) rfl rfl (by kernel_rfl) (fun _ _ _ h => h) (.inl ⟨by rfl, ?_⟩) ?_ ?_; rotate_left; (intro w'; go_simp; with_reducible rfl); rotate_left; (simp only [Act.put, List.setIfInBounds_toArray, List.set_cons_zero, List.set_cons_succ, i64_w, i32_w]; rfl)) | (refine drq_take HT HH (v := ?_) (a' := ?_) rfl rfl (by kernel_rfl) (fun _ _ _ h => h) (.inl ⟨by rfl, ?_⟩) ?_ ?_; rotate_left; (rintro w' ⟨rs', HS'⟩; have F := HS'.boxes; simp only [boxFacts, List.cons_append, List.nil_append, and_true] at F; go_simp; with_reducible rfl); rotate_left; (simp only [Act.put, List.setIfInBounds_toArray, List.set_cons_zero, List.set_cons_succ, i64_w, i32_w]; rfl)))
       refine drq_end ?_
       refine dr_any [1, 11] HT (by kernel_rfl) (by decide) (AllReadyL.cons rfl (by decide) (fun K hK => ?_) (AllReadyL.cons rfl (by decide) (fun K hK => ?_) AllReadyL.nil))
       · refine goes_ Try.func9 (by kernel_rfl) rfl #[.agg #[.string a0.f0, .int .i64 a0.f1, .slice Ap0 a0.f2.length cp0, .slice Ap1 a0.f3.length cp1, .slice Ap2 a0.f4.length cp2]] (by rfl) rfl rfl (by simp only [List.map_toArray, List.map_cons, List.map_nil]; rfl) ?_; refine (laws_toClient.calls ht101001.out (HS.ro gp0) lp0 (HS.ro gp1) lp1 (HS.ro gp2) lp2).mono ?_; rintro _ wt101001 ⟨v101002, v101003, v101004, rfl, HQ⟩; refine ⟨_, rfl, ?_⟩; replace HS := HS.call HQ; clear HQ; (try clear F); obtain ⟨B101002, d101002, rfl, m101002⟩ := HS.form 2 rfl; obtain ⟨B101003, d101003, rfl, m101003⟩ := HS.form 3 rfl; obtain ⟨B101004, d101004, rfl, m101004⟩ := HS.form 4 rfl
         (try simp only [hpn, hpm] at HS)
         have F := HS.boxes; simp only [boxFacts, and_true] at F
         refine hK.out _ _ ⟨_, HS⟩ (fun HH => ?_)
         clear hK K
         refine norm_ (a' := ?_) ?_ ?_
         rotate_left
         · show Act.put _ (some 36) _ = _; simp only [Act.put, List.setIfInBounds_toArray, List.set_cons_zero, List.set_cons_succ, i64_w, i32_w]; rfl
         refine dr_any [3, 11] HT (by kernel_rfl) (by decide) (AllReadyL.cons rfl (by decide) (fun K hK => ?_) (AllReadyL.cons rfl (by decide) (fun K hK => ?_) AllReadyL.nil))
         · refine goes_ Try.func32 (by kernel_rfl) rfl #[.agg #[.slice Ap3 a1.f0.length cp3, .int .i64 a1.f1, .int .i64 a1.f2, .int .i64 a1.f3, .int .i64 a1.f4, .bool a1.f5]] (by rfl) rfl rfl (by simp only [List.map_toArray, List.map_cons, List.map_nil]; rfl) ?_; refine (laws_toAsk.calls ht103001.out (HS.ro gp3) lp3).mono ?_; rintro _ wt103001 ⟨v103002, rfl, HQ⟩; refine ⟨_, rfl, ?_⟩; replace HS := HS.call HQ; clear HQ; (try clear F); obtain ⟨B103002, d103002, rfl, m103002⟩ := HS.form 5 rfl
           (try simp only [hpn, hpm] at HS)
           have F := HS.boxes; simp only [boxFacts, and_true] at F
           refine hK.out _ _ ⟨_, HS⟩ (fun HH => ?_)
           clear hK K
           refine norm_ (a' := ?_) ?_ ?_
           rotate_left
           · show Act.put _ (some 38) _ = _; simp only [Act.put, List.setIfInBounds_toArray, List.set_cons_zero, List.set_cons_succ, i64_w, i32_w]; rfl
           refine dr_any [6, 11] HT (by kernel_rfl) (by decide) (AllReadyL.cons rfl (by decide) (fun K hK => ?_) (AllReadyL.cons rfl (by decide) (fun K hK => ?_) AllReadyL.nil))
           · refine goes_ Try.func31 (by kernel_rfl) rfl #[.agg #[.string t101001.f0, .int .i64 t101001.f1, .slice B101002 t101001.f2.length d101002, .slice B101003 t101001.f3.length d101003, .slice B101004 t101001.f4.length d101004], .agg #[.slice B103002 t103001.f0.length d103002, .int .i64 t103001.f1, .int .i64 t103001.f2, .int .i64 t103001.f3, .int .i64 t103001.f4, .bool t103001.f5], .int .i64 a2, .int .i64 a3] (by rfl) rfl rfl (by simp only [List.map_toArray, List.map_cons, List.map_nil]; rfl) ?_; refine (spec_AskNow.calls ht106001.out (HS.rd 2 rfl) m101002 (HS.rd 3 rfl) m101003 (HS.rd 4 rfl) m101004 (HS.rd 5 rfl) m103002).mono ?_; rintro _ wt106001 ⟨v106002, v106003, v106004, rfl, HQ⟩; refine ⟨_, rfl, ?_⟩; replace HS := HS.call HQ; clear HQ; (try clear F); obtain ⟨B106002, d106002, rfl, m106002⟩ := HS.form 6 rfl; obtain ⟨B106003, d106003, rfl, m106003⟩ := HS.form 7 rfl; obtain ⟨B106004, d106004, rfl, m106004⟩ := HS.form 8 rfl
             (try simp only [hpn, hpm] at HS)
             have F := HS.boxes; simp only [boxFacts, and_true] at F
             refine hK.out _ _ ⟨_, HS⟩ (fun HH => ?_)
             clear hK K
             refine norm_ (a' := ?_) ?_ ?_
             rotate_left
             · show Act.put _ (some 41) _ = _; simp only [Act.put, List.setIfInBounds_toArray, List.set_cons_zero, List.set_cons_succ, i64_w, i32_w]; rfl
             refine drq_of [(7, some 34), (8, some 42), (9, some 43), (10, some 44)] ?_
             repeat (first | (refine drq_pure HT (v := ?_) (a' := ?_) rfl rfl (by kernel_rfl) (fun _ _ _ h => h) (.inl ⟨by rfl, ?_⟩) ?_ ?_; rotate_left; (intro w'; go_simp; with_reducible rfl); rotate_left; (simp only [Act.put, List.setIfInBounds_toArray, List.set_cons_zero, List.set_cons_succ, i64_w, i32_w]; rfl)))
             refine drq_end ?_
             refine dr_one 11 HT rfl (by kernel_rfl) (by decide) (fun K hK => ?_)
             refine if_wp (by rfl) ?_; refine wp_box HS (by first | (go_simp; done) | (go_simp; rfl)) rfl ?_; clear HS; (try clear F); intro g10 w10 HS
             (try simp only [hpn, hpm] at HS)
             have F := HS.boxes; simp only [boxFacts, and_true] at F
             refine hK.out _ _ ⟨_, HS⟩ (fun HH => ?_)
             clear hK K
             refine norm_ (a' := ?_) ?_ ?_
             rotate_left
             · show Act.put _ (some 10) _ = _; simp only [Act.put, List.setIfInBounds_toArray, List.set_cons_zero, List.set_cons_succ, i64_w, i32_w]; rfl
             refine dr_last 12 HT rfl (by kernel_rfl) (by decide) (fun K hK => ?_)
             refine if_wp (by rfl) ?_; refine wp_store 9 0 HS (seg := [.string t106001.1.f0, .int .i64 t106001.1.f1, .slice B106002 t106001.1.f2.length d106002, .slice B106003 t106001.1.f3.length d106003, .slice B106004 t106001.1.f4.length d106004]) rfl rfl rfl rfl rfl rfl (by kernel_rfl) (by simp [wrt]) (by simp [Value.oneCell']) ?_; clear HS; (try clear F); intro w112001 HS
             (try simp only [hpn, hpm] at HS)
             have F := HS.boxes; simp only [boxFacts, and_true] at F
             refine hK.out _ _ ?_
             clear hK K
             refine drq_of [(13, some 11), (14, some 12)] ?_
             repeat (first | (refine drq_pure HT (v := ?_) (a' := ?_) rfl rfl (by kernel_rfl) (fun _ _ _ h => h) (.inl ⟨by rfl, ?_⟩) ?_ ?_; rotate_left; (intro w'; go_simp; with_reducible rfl); rotate_left; (simp only [Act.put, List.setIfInBounds_toArray, List.set_cons_zero, List.set_cons_succ, i64_w, i32_w]; rfl)))
             refine drq_end ?_
             refine norm_ ?_ (hJ (.slice B101002 t101001.f2.length d101002, .slice B101003 t101001.f3.length d101003, .slice B101004 t101001.f4.length d101004, .slice B103002 t103001.f0.length d103002, .slice B106002 t106001.1.f2.length d106002, .slice B106003 t106001.1.f3.length d106003, .slice B106004 t106001.1.f4.length d106004, g10) _ (HS.arr [some 0, some 1, some 2, some 3, some 4, some 5, some 6, some 7, some 8, some 9] (by decide)))
             simp only [putAll, Act.put, List.setIfInBounds_toArray, List.set_cons_zero, List.set_cons_succ, i64_w, i32_w]
             (try rfl)
           · refine if_wp (by rfl) ?_; refine wp_box HS (by first | (go_simp; done) | (go_simp; rfl)) rfl ?_; clear HS; (try clear F); intro g10 w10 HS
             (try simp only [hpn, hpm] at HS)
             have F := HS.boxes; simp only [boxFacts, and_true] at F
             refine hK.out _ _ ⟨_, HS⟩ (fun HH => ?_)
             clear hK K
             refine norm_ (a' := ?_) ?_ ?_
             rotate_left
             · show Act.put _ (some 10) _ = _; simp only [Act.put, List.setIfInBounds_toArray, List.set_cons_zero, List.set_cons_succ, i64_w, i32_w]; rfl
             refine dr_one 6 HT rfl (by kernel_rfl) (by decide) (fun K hK => ?_)
             refine goes_ Try.func31 (by kernel_rfl) rfl #[.agg #[.string t101001.f0, .int .i64 t101001.f1, .slice B101002 t101001.f2.length d101002, .slice B101003 t101001.f3.length d101003, .slice B101004 t101001.f4.length d101004], .agg #[.slice B103002 t103001.f0.length d103002, .int .i64 t103001.f1, .int .i64 t103001.f2, .int .i64 t103001.f3, .int .i64 t103001.f4, .bool t103001.f5], .int .i64 a2, .int .i64 a3] (by rfl) rfl rfl (by simp only [List.map_toArray, List.map_cons, List.map_nil]; rfl) ?_; refine (spec_AskNow.calls ht106001.out (HS.rd 2 rfl) m101002 (HS.rd 3 rfl) m101003 (HS.rd 4 rfl) m101004 (HS.rd 5 rfl) m103002).mono ?_; rintro _ wt106001 ⟨v106002, v106003, v106004, rfl, HQ⟩; refine ⟨_, rfl, ?_⟩; replace HS := HS.call HQ; clear HQ; (try clear F); obtain ⟨B106002, d106002, rfl, m106002⟩ := HS.form 7 rfl; obtain ⟨B106003, d106003, rfl, m106003⟩ := HS.form 8 rfl; obtain ⟨B106004, d106004, rfl, m106004⟩ := HS.form 9 rfl
             (try simp only [hpn, hpm] at HS)
             have F := HS.boxes; simp only [boxFacts, and_true] at F
             refine hK.out _ _ ⟨_, HS⟩ (fun HH => ?_)
             clear hK K
             refine norm_ (a' := ?_) ?_ ?_
             rotate_left
             · show Act.put _ (some 41) _ = _; simp only [Act.put, List.setIfInBounds_toArray, List.set_cons_zero, List.set_cons_succ, i64_w, i32_w]; rfl
             refine drq_of [(7, some 34), (8, some 42), (9, some 43), (10, some 44)] ?_
             repeat (first | (refine drq_pure HT (v := ?_) (a' := ?_) rfl rfl (by kernel_rfl) (fun _ _ _ h => h) (.inl ⟨by rfl, ?_⟩) ?_ ?_; rotate_left; (intro w'; go_simp; with_reducible rfl); rotate_left; (simp only [Act.put, List.setIfInBounds_toArray, List.set_cons_zero, List.set_cons_succ, i64_w, i32_w]; rfl)))
             refine drq_end ?_
             refine dr_last 12 HT rfl (by kernel_rfl) (by decide) (fun K hK => ?_)
             refine if_wp (by rfl) ?_; refine wp_store 6 0 HS (seg := [.string t106001.1.f0, .int .i64 t106001.1.f1, .slice B106002 t106001.1.f2.length d106002, .slice B106003 t106001.1.f3.length d106003, .slice B106004 t106001.1.f4.length d106004]) rfl rfl rfl rfl rfl rfl (by kernel_rfl) (by simp [wrt]) (by simp [Value.oneCell']) ?_; clear HS; (try clear F); intro w112001 HS
             (try simp only [hpn, hpm] at HS)
             have F := HS.boxes; simp only [boxFacts, and_true] at F
             refine hK.out _ _ ?_
             clear hK K
             refine drq_of [(13, some 11), (14, some 12)] ?_
             repeat (first | (refine drq_pure HT (v := ?_) (a' := ?_) rfl rfl (by kernel_rfl) (fun _ _ _ h => h) (.inl ⟨by rfl, ?_⟩) ?_ ?_; rotate_left; (intro w'; go_simp; with_reducible rfl); rotate_left; (simp only [Act.put, List.setIfInBounds_toArray, List.set_cons_zero, List.set_cons_succ, i64_w, i32_w]; rfl)))
             refine drq_end ?_
             refine norm_ ?_ (hJ (.slice B101002 t101001.f2.length d101002, .slice B101003 t101001.f3.length d101003, .slice B101004 t101001.f4.length d101004, .slice B103002 t103001.f0.length d103002, .slice B106002 t106001.1.f2.length d106002, .slice B106003 t106001.1.f3.length d106003, .slice B106004 t106001.1.f4.length d106004, g10) _ (HS.arr [some 0, some 1, some 2, some 3, some 4, some 5, some 7, some 8, some 9, some 6] (by decide)))
             simp only [putAll, Act.put, List.setIfInBounds_toArray, List.set_cons_zero, List.set_cons_succ, i64_w, i32_w]
             (try rfl)
         · refine if_wp (by rfl) ?_; refine wp_box HS (by first | (go_simp; done) | (go_simp; rfl)) rfl ?_; clear HS; (try clear F); intro g10 w10 HS
           (try simp only [hpn, hpm] at HS)
           have F := HS.boxes; simp only [boxFacts, and_true] at F
           refine hK.out _ _ ⟨_, HS⟩ (fun HH => ?_)
           clear hK K
           refine norm_ (a' := ?_) ?_ ?_
           rotate_left
           · show Act.put _ (some 10) _ = _; simp only [Act.put, List.setIfInBounds_toArray, List.set_cons_zero, List.set_cons_succ, i64_w, i32_w]; rfl
           refine dr_one 3 HT rfl (by kernel_rfl) (by decide) (fun K hK => ?_)
           refine goes_ Try.func32 (by kernel_rfl) rfl #[.agg #[.slice Ap3 a1.f0.length cp3, .int .i64 a1.f1, .int .i64 a1.f2, .int .i64 a1.f3, .int .i64 a1.f4, .bool a1.f5]] (by rfl) rfl rfl (by simp only [List.map_toArray, List.map_cons, List.map_nil]; rfl) ?_; refine (laws_toAsk.calls ht103001.out (HS.ro gp3) lp3).mono ?_; rintro _ wt103001 ⟨v103002, rfl, HQ⟩; refine ⟨_, rfl, ?_⟩; replace HS := HS.call HQ; clear HQ; (try clear F); obtain ⟨B103002, d103002, rfl, m103002⟩ := HS.form 6 rfl
           (try simp only [hpn, hpm] at HS)
           have F := HS.boxes; simp only [boxFacts, and_true] at F
           refine hK.out _ _ ⟨_, HS⟩ (fun HH => ?_)
           clear hK K
           refine norm_ (a' := ?_) ?_ ?_
           rotate_left
           · show Act.put _ (some 38) _ = _; simp only [Act.put, List.setIfInBounds_toArray, List.set_cons_zero, List.set_cons_succ, i64_w, i32_w]; rfl
           refine dr_one 6 HT rfl (by kernel_rfl) (by decide) (fun K hK => ?_)
           refine goes_ Try.func31 (by kernel_rfl) rfl #[.agg #[.string t101001.f0, .int .i64 t101001.f1, .slice B101002 t101001.f2.length d101002, .slice B101003 t101001.f3.length d101003, .slice B101004 t101001.f4.length d101004], .agg #[.slice B103002 t103001.f0.length d103002, .int .i64 t103001.f1, .int .i64 t103001.f2, .int .i64 t103001.f3, .int .i64 t103001.f4, .bool t103001.f5], .int .i64 a2, .int .i64 a3] (by rfl) rfl rfl (by simp only [List.map_toArray, List.map_cons, List.map_nil]; rfl) ?_; refine (spec_AskNow.calls ht106001.out (HS.rd 2 rfl) m101002 (HS.rd 3 rfl) m101003 (HS.rd 4 rfl) m101004 (HS.rd 6 rfl) m103002).mono ?_; rintro _ wt106001 ⟨v106002, v106003, v106004, rfl, HQ⟩; refine ⟨_, rfl, ?_⟩; replace HS := HS.call HQ; clear HQ; (try clear F); obtain ⟨B106002, d106002, rfl, m106002⟩ := HS.form 7 rfl; obtain ⟨B106003, d106003, rfl, m106003⟩ := HS.form 8 rfl; obtain ⟨B106004, d106004, rfl, m106004⟩ := HS.form 9 rfl
           (try simp only [hpn, hpm] at HS)
           have F := HS.boxes; simp only [boxFacts, and_true] at F
           refine hK.out _ _ ⟨_, HS⟩ (fun HH => ?_)
           clear hK K
           refine norm_ (a' := ?_) ?_ ?_
           rotate_left
           · show Act.put _ (some 41) _ = _; simp only [Act.put, List.setIfInBounds_toArray, List.set_cons_zero, List.set_cons_succ, i64_w, i32_w]; rfl
           refine drq_of [(7, some 34), (8, some 42), (9, some 43), (10, some 44)] ?_
           repeat (first | (refine drq_pure HT (v := ?_) (a' := ?_) rfl rfl (by kernel_rfl) (fun _ _ _ h => h) (.inl ⟨by rfl, ?_⟩) ?_ ?_; rotate_left; (intro w'; go_simp; with_reducible rfl); rotate_left; (simp only [Act.put, List.setIfInBounds_toArray, List.set_cons_zero, List.set_cons_succ, i64_w, i32_w]; rfl)))
           refine drq_end ?_
           refine dr_last 12 HT rfl (by kernel_rfl) (by decide) (fun K hK => ?_)
           refine if_wp (by rfl) ?_; refine wp_store 5 0 HS (seg := [.string t106001.1.f0, .int .i64 t106001.1.f1, .slice B106002 t106001.1.f2.length d106002, .slice B106003 t106001.1.f3.length d106003, .slice B106004 t106001.1.f4.length d106004]) rfl rfl rfl rfl rfl rfl (by kernel_rfl) (by simp [wrt]) (by simp [Value.oneCell']) ?_; clear HS; (try clear F); intro w112001 HS
           (try simp only [hpn, hpm] at HS)
           have F := HS.boxes; simp only [boxFacts, and_true] at F
           refine hK.out _ _ ?_
           clear hK K
           refine drq_of [(13, some 11), (14, some 12)] ?_
           repeat (first | (refine drq_pure HT (v := ?_) (a' := ?_) rfl rfl (by kernel_rfl) (fun _ _ _ h => h) (.inl ⟨by rfl, ?_⟩) ?_ ?_; rotate_left; (intro w'; go_simp; with_reducible rfl); rotate_left; (simp only [Act.put, List.setIfInBounds_toArray, List.set_cons_zero, List.set_cons_succ, i64_w, i32_w]; rfl)))
           refine drq_end ?_
           refine norm_ ?_ (hJ (.slice B101002 t101001.f2.length d101002, .slice B101003 t101001.f3.length d101003, .slice B101004 t101001.f4.length d101004, .slice B103002 t103001.f0.length d103002, .slice B106002 t106001.1.f2.length d106002, .slice B106003 t106001.1.f3.length d106003, .slice B106004 t106001.1.f4.length d106004, g10) _ (HS.arr [some 0, some 1, some 2, some 3, some 4, some 6, some 7, some 8, some 9, some 5] (by decide)))
           simp only [putAll, Act.put, List.setIfInBounds_toArray, List.set_cons_zero, List.set_cons_succ, i64_w, i32_w]
           (try rfl)
       · refine if_wp (by rfl) ?_; refine wp_box HS (by first | (go_simp; done) | (go_simp; rfl)) rfl ?_; clear HS; (try clear F); intro g10 w10 HS
         (try simp only [hpn, hpm] at HS)
         have F := HS.boxes; simp only [boxFacts, and_true] at F
         refine hK.out _ _ ⟨_, HS⟩ (fun HH => ?_)
         clear hK K
         refine norm_ (a' := ?_) ?_ ?_
         rotate_left
         · show Act.put _ (some 10) _ = _; simp only [Act.put, List.setIfInBounds_toArray, List.set_cons_zero, List.set_cons_succ, i64_w, i32_w]; rfl
         refine dr_one 1 HT rfl (by kernel_rfl) (by decide) (fun K hK => ?_)
         refine goes_ Try.func9 (by kernel_rfl) rfl #[.agg #[.string a0.f0, .int .i64 a0.f1, .slice Ap0 a0.f2.length cp0, .slice Ap1 a0.f3.length cp1, .slice Ap2 a0.f4.length cp2]] (by rfl) rfl rfl (by simp only [List.map_toArray, List.map_cons, List.map_nil]; rfl) ?_; refine (laws_toClient.calls ht101001.out (HS.ro gp0) lp0 (HS.ro gp1) lp1 (HS.ro gp2) lp2).mono ?_; rintro _ wt101001 ⟨v101002, v101003, v101004, rfl, HQ⟩; refine ⟨_, rfl, ?_⟩; replace HS := HS.call HQ; clear HQ; (try clear F); obtain ⟨B101002, d101002, rfl, m101002⟩ := HS.form 3 rfl; obtain ⟨B101003, d101003, rfl, m101003⟩ := HS.form 4 rfl; obtain ⟨B101004, d101004, rfl, m101004⟩ := HS.form 5 rfl
         (try simp only [hpn, hpm] at HS)
         have F := HS.boxes; simp only [boxFacts, and_true] at F
         refine hK.out _ _ ⟨_, HS⟩ (fun HH => ?_)
         clear hK K
         refine norm_ (a' := ?_) ?_ ?_
         rotate_left
         · show Act.put _ (some 36) _ = _; simp only [Act.put, List.setIfInBounds_toArray, List.set_cons_zero, List.set_cons_succ, i64_w, i32_w]; rfl
         refine dr_one 3 HT rfl (by kernel_rfl) (by decide) (fun K hK => ?_)
         refine goes_ Try.func32 (by kernel_rfl) rfl #[.agg #[.slice Ap3 a1.f0.length cp3, .int .i64 a1.f1, .int .i64 a1.f2, .int .i64 a1.f3, .int .i64 a1.f4, .bool a1.f5]] (by rfl) rfl rfl (by simp only [List.map_toArray, List.map_cons, List.map_nil]; rfl) ?_; refine (laws_toAsk.calls ht103001.out (HS.ro gp3) lp3).mono ?_; rintro _ wt103001 ⟨v103002, rfl, HQ⟩; refine ⟨_, rfl, ?_⟩; replace HS := HS.call HQ; clear HQ; (try clear F); obtain ⟨B103002, d103002, rfl, m103002⟩ := HS.form 6 rfl
         (try simp only [hpn, hpm] at HS)
         have F := HS.boxes; simp only [boxFacts, and_true] at F
         refine hK.out _ _ ⟨_, HS⟩ (fun HH => ?_)
         clear hK K
         refine norm_ (a' := ?_) ?_ ?_
         rotate_left
         · show Act.put _ (some 38) _ = _; simp only [Act.put, List.setIfInBounds_toArray, List.set_cons_zero, List.set_cons_succ, i64_w, i32_w]; rfl
         refine dr_one 6 HT rfl (by kernel_rfl) (by decide) (fun K hK => ?_)
         refine goes_ Try.func31 (by kernel_rfl) rfl #[.agg #[.string t101001.f0, .int .i64 t101001.f1, .slice B101002 t101001.f2.length d101002, .slice B101003 t101001.f3.length d101003, .slice B101004 t101001.f4.length d101004], .agg #[.slice B103002 t103001.f0.length d103002, .int .i64 t103001.f1, .int .i64 t103001.f2, .int .i64 t103001.f3, .int .i64 t103001.f4, .bool t103001.f5], .int .i64 a2, .int .i64 a3] (by rfl) rfl rfl (by simp only [List.map_toArray, List.map_cons, List.map_nil]; rfl) ?_; refine (spec_AskNow.calls ht106001.out (HS.rd 3 rfl) m101002 (HS.rd 4 rfl) m101003 (HS.rd 5 rfl) m101004 (HS.rd 6 rfl) m103002).mono ?_; rintro _ wt106001 ⟨v106002, v106003, v106004, rfl, HQ⟩; refine ⟨_, rfl, ?_⟩; replace HS := HS.call HQ; clear HQ; (try clear F); obtain ⟨B106002, d106002, rfl, m106002⟩ := HS.form 7 rfl; obtain ⟨B106003, d106003, rfl, m106003⟩ := HS.form 8 rfl; obtain ⟨B106004, d106004, rfl, m106004⟩ := HS.form 9 rfl
         (try simp only [hpn, hpm] at HS)
         have F := HS.boxes; simp only [boxFacts, and_true] at F
         refine hK.out _ _ ⟨_, HS⟩ (fun HH => ?_)
         clear hK K
         refine norm_ (a' := ?_) ?_ ?_
         rotate_left
         · show Act.put _ (some 41) _ = _; simp only [Act.put, List.setIfInBounds_toArray, List.set_cons_zero, List.set_cons_succ, i64_w, i32_w]; rfl
         refine drq_of [(7, some 34), (8, some 42), (9, some 43), (10, some 44)] ?_
         repeat (first | (refine drq_pure HT (v := ?_) (a' := ?_) rfl rfl (by kernel_rfl) (fun _ _ _ h => h) (.inl ⟨by rfl, ?_⟩) ?_ ?_; rotate_left; (intro w'; go_simp; with_reducible rfl); rotate_left; (simp only [Act.put, List.setIfInBounds_toArray, List.set_cons_zero, List.set_cons_succ, i64_w, i32_w]; rfl)))
         refine drq_end ?_
         refine dr_last 12 HT rfl (by kernel_rfl) (by decide) (fun K hK => ?_)
         refine if_wp (by rfl) ?_; refine wp_store 2 0 HS (seg := [.string t106001.1.f0, .int .i64 t106001.1.f1, .slice B106002 t106001.1.f2.length d106002, .slice B106003 t106001.1.f3.length d106003, .slice B106004 t106001.1.f4.length d106004]) rfl rfl rfl rfl rfl rfl (by kernel_rfl) (by simp [wrt]) (by simp [Value.oneCell']) ?_; clear HS; (try clear F); intro w112001 HS
         (try simp only [hpn, hpm] at HS)
         have F := HS.boxes; simp only [boxFacts, and_true] at F
         refine hK.out _ _ ?_
         clear hK K
         refine drq_of [(13, some 11), (14, some 12)] ?_
         repeat (first | (refine drq_pure HT (v := ?_) (a' := ?_) rfl rfl (by kernel_rfl) (fun _ _ _ h => h) (.inl ⟨by rfl, ?_⟩) ?_ ?_; rotate_left; (intro w'; go_simp; with_reducible rfl); rotate_left; (simp only [Act.put, List.setIfInBounds_toArray, List.set_cons_zero, List.set_cons_succ, i64_w, i32_w]; rfl)))
         refine drq_end ?_
         refine norm_ ?_ (hJ (.slice B101002 t101001.f2.length d101002, .slice B101003 t101001.f3.length d101003, .slice B101004 t101001.f4.length d101004, .slice B103002 t103001.f0.length d103002, .slice B106002 t106001.1.f2.length d106002, .slice B106003 t106001.1.f3.length d106003, .slice B106004 t106001.1.f4.length d106004, g10) _ (HS.arr [some 0, some 1, some 3, some 4, some 5, some 6, some 7, some 8, some 9, some 2] (by decide)))
         simp only [putAll, Act.put, List.setIfInBounds_toArray, List.set_cons_zero, List.set_cons_succ, i64_w, i32_w]
         (try rfl)
     rintro ⟨v101002, v101003, v101004, v103002, v106002, v106003, v106004, g10⟩ w199999 HS
     obtain ⟨B101002, d101002, rfl, m101002⟩ := HS.form 2 rfl
     obtain ⟨B101003, d101003, rfl, m101003⟩ := HS.form 3 rfl
     obtain ⟨B101004, d101004, rfl, m101004⟩ := HS.form 4 rfl
     obtain ⟨B103002, d103002, rfl, m103002⟩ := HS.form 5 rfl
     obtain ⟨B106002, d106002, rfl, m106002⟩ := HS.form 6 rfl
     obtain ⟨B106003, d106003, rfl, m106003⟩ := HS.form 7 rfl
     obtain ⟨B106004, d106004, rfl, m106004⟩ := HS.form 8 rfl
     have F := HS.boxes; simp only [boxFacts, and_true] at F
     refine norm_ (a' := ?_) ?_ ?_
     rotate_left
     · simp only [putAll, Act.put, List.setIfInBounds_toArray, List.set_cons_zero, List.set_cons_succ, i64_w, i32_w]; rfl
     refine done_ (done_of HT.out (by kernel_rfl)) ?_
     replace H := zbind H; obtain ⟨t14, ht14, H⟩ := H
     replace H := zbind H; obtain ⟨t23, ht23, H⟩ := H
     replace H := zbind H; obtain ⟨t30, ht30, H⟩ := H
     replace H := zbind H; obtain ⟨t39, ht39, H⟩ := H
     by_cases c41 : t39 = true
     · replace H := zpos c41 H
       subst c41
       by_cases c42 : t30.2.1.toList = t106001.2.1.toList
       · replace H := zpos c42 H
         have c42a := beq_iff_eq.mpr c42
         have c42b := bne_eq_false_iff_eq.mpr c42
         clear c42
         go_upto_if 71 with (first | ((with_reducible refine gate_dst (N := 46) rfl ?_); refine ev_call rfl Try.func9 (by kernel_rfl) rfl #[.agg #[.string a0.f0, .int .i64 a0.f1, .slice Ap0 a0.f2.length cp0, .slice Ap1 a0.f3.length cp1, .slice Ap2 a0.f4.length cp2]] rfl (by simp only [List.map_toArray, List.map_cons, List.map_nil]; rfl) ?_; refine (laws_toClient.calls ht14.out (HS.ro gp0) lp0 (HS.ro gp1) lp1 (HS.ro gp2) lp2).mono ?_; rintro _ wt14 ⟨v15, v16, v17, rfl, HQ⟩; refine ⟨_, rfl, ?_⟩; replace HS := HS.call HQ; clear HQ; (try clear F); obtain ⟨B15, d15, rfl, m15⟩ := HS.form 10 rfl; obtain ⟨B16, d16, rfl, m16⟩ := HS.form 11 rfl; obtain ⟨B17, d17, rfl, m17⟩ := HS.form 12 rfl; (try simp only [hpn, hpm] at HS); have F := HS.boxes; simp only [boxFacts, and_true] at F) | ((with_reducible refine gate_dst (N := 13) rfl ?_); refine ev_box rfl HS (by first | (go_simp; done) | (go_simp; rfl)) rfl ?_; clear HS; (try clear F); intro g13 w13 HS; (try simp only [hpn, hpm] at HS); have F := HS.boxes; simp only [boxFacts, and_true] at F) | ((with_reducible refine gate_store (p := 13) rfl ?_); refine ev_store rfl 13 0 HS (seg := [.string t14.f0, .int .i64 t14.f1, .slice B15 t14.f2.length d15, .slice B16 t14.f3.length d16, .slice B17 t14.f4.length d17]) rfl rfl rfl rfl rfl rfl (by kernel_rfl) (by simp [wrt]) (by simp [Value.oneCell']) ?_; clear HS; (try clear F); intro w21 HS; (try simp only [hpn, hpm] at HS); have F := HS.boxes; simp only [boxFacts, and_true] at F) | ((with_reducible refine gate_dst (N := 48) rfl ?_); refine ev_call rfl Try.func32 (by kernel_rfl) rfl #[.agg #[.slice Ap3 a1.f0.length cp3, .int .i64 a1.f1, .int .i64 a1.f2, .int .i64 a1.f3, .int .i64 a1.f4, .bool a1.f5]] rfl (by simp only [List.map_toArray, List.map_cons, List.map_nil]; rfl) ?_; refine (laws_toAsk.calls ht23.out (HS.ro gp3) lp3).mono ?_; rintro _ wt23 ⟨v24, rfl, HQ⟩; refine ⟨_, rfl, ?_⟩; replace HS := HS.call HQ; clear HQ; (try clear F); obtain ⟨B24, d24, rfl, m24⟩ := HS.form 14 rfl; (try simp only [hpn, hpm] at HS); have F := HS.boxes; simp only [boxFacts, and_true] at F) | ((with_reducible refine gate_dst (N := 14) rfl ?_); refine ev_box rfl HS (by first | (go_simp; done) | (go_simp; rfl)) rfl ?_; clear HS; (try clear F); intro g14 w14 HS; (try simp only [hpn, hpm] at HS); have F := HS.boxes; simp only [boxFacts, and_true] at F) | ((with_reducible refine gate_store (p := 14) rfl ?_); refine ev_store rfl 15 0 HS (seg := [.slice B24 t23.f0.length d24, .int .i64 t23.f1, .int .i64 t23.f2, .int .i64 t23.f3, .int .i64 t23.f4, .bool t23.f5]) rfl rfl rfl rfl rfl rfl (by kernel_rfl) (by simp [wrt]) (by simp [Value.oneCell']) ?_; clear HS; (try clear F); intro w28 HS; (try simp only [hpn, hpm] at HS); have F := HS.boxes; simp only [boxFacts, and_true] at F) | ((with_reducible refine gate_dst (N := 54) rfl ?_); refine ev_call rfl Try.func33 (by kernel_rfl) rfl #[.agg #[.string t14.f0, .int .i64 t14.f1, .slice B15 t14.f2.length d15, .slice B16 t14.f3.length d16, .slice B17 t14.f4.length d17], .agg #[.slice B24 t23.f0.length d24, .int .i64 t23.f1, .int .i64 t23.f2, .int .i64 t23.f3, .int .i64 t23.f4, .bool t23.f5], .int .i64 a2, .int .i64 a3] rfl (by simp only [List.map_toArray, List.map_cons, List.map_nil]; rfl) ?_; refine (impl_AskNow.calls ht30.out (HS.rd 10 rfl) m15 (HS.rd 11 rfl) m16 (HS.rd 12 rfl) m17 (HS.rd 14 rfl) m24).mono ?_; rintro _ wt30 ⟨v31, v32, v33, rfl, HQ⟩; refine ⟨_, rfl, ?_⟩; replace HS := HS.call HQ; clear HQ; (try clear F); obtain ⟨B31, d31, rfl, m31⟩ := HS.form 16 rfl; obtain ⟨B32, d32, rfl, m32⟩ := HS.form 17 rfl; obtain ⟨B33, d33, rfl, m33⟩ := HS.form 18 rfl; (try simp only [hpn, hpm] at HS); have F := HS.boxes; simp only [boxFacts, and_true] at F) | ((with_reducible refine gate_dst (N := 15) rfl ?_); refine ev_box rfl HS (by first | (go_simp; done) | (go_simp; rfl)) rfl ?_; clear HS; (try clear F); intro g15 w15 HS; (try simp only [hpn, hpm] at HS); have F := HS.boxes; simp only [boxFacts, and_true] at F) | ((with_reducible refine gate_store (p := 15) rfl ?_); refine ev_store rfl 19 0 HS (seg := [.string t30.1.f0, .int .i64 t30.1.f1, .slice B31 t30.1.f2.length d31, .slice B32 t30.1.f3.length d32, .slice B33 t30.1.f4.length d33]) rfl rfl rfl rfl rfl rfl (by kernel_rfl) (by simp [wrt]) (by simp [Value.oneCell']) ?_; clear HS; (try clear F); intro w37 HS; (try simp only [hpn, hpm] at HS); have F := HS.boxes; simp only [boxFacts, and_true] at F) | ((with_reducible refine gate_dst (N := 60) rfl ?_); refine ev_call rfl Try.func11 (by kernel_rfl) rfl #[.agg #[.string t30.1.f0, .int .i64 t30.1.f1, .slice B31 t30.1.f2.length d31, .slice B32 t30.1.f3.length d32, .slice B33 t30.1.f4.length d33], .agg #[.string t106001.1.f0, .int .i64 t106001.1.f1, .slice B106002 t106001.1.f2.length d106002, .slice B106003 t106001.1.f3.length d106003, .slice B106004 t106001.1.f4.length d106004]] rfl (by simp only [List.map_toArray, List.map_cons, List.map_nil]; rfl) ?_; refine (laws_eqClient.calls ht39.out (HS.rd 16 rfl) m31 (HS.rd 17 rfl) m32 (HS.rd 18 rfl) m33 (HS.rd 6 rfl) m106002 (HS.rd 7 rfl) m106003 (HS.rd 8 rfl) m106004).mono ?_; rintro _ wt39 ⟨rfl, HQ⟩; refine ⟨_, rfl, ?_⟩; replace HS := HS.call HQ; clear HQ; (try clear F); (try simp only [hpn, hpm] at HS); have F := HS.boxes; simp only [boxFacts, and_true] at F))
         by_cases c43 : t30.2.2 = t106001.2.2
         · replace H := zpos c43 H
           have c43a := beq_iff_eq.mpr c43
           have c43b := bne_eq_false_iff_eq.mpr c43
           clear c43
           (try simp only [c43a, c43b, dcn])
           (try go_wp2)
           replace H := zbind H; obtain ⟨t202001, ht202001, H⟩ := H
           replace H := zbind H; obtain ⟨t203001, ht203001, H⟩ := H
           refine dr_start [] HS #[false, false, false, false, false] (by kernel_rfl) rfl rfl laws_FnExactAskNow.tT14 (fun w45 HT HS HH => ?_)
           (try clear F)
           refine drq_of [(0, some 72), (1, some 73)] ?_
           repeat (first | (refine drq_take HT HH (v := ?_) (a' := ?_) rfl rfl (by kernel_rfl) (fun _ _ _ h => h) (.inl ⟨by rfl, ?_⟩) ?_ ?_; rotate_left; (rintro w' ⟨rs', HS'⟩; have F := HS'.boxes; simp only [boxFacts, List.cons_append, List.nil_append, and_true] at F; go_simp; with_reducible rfl); rotate_left; (simp only [Act.put, List.setIfInBounds_toArray, List.set_cons_zero, List.set_cons_succ, i64_w, i32_w]; rfl)))
           refine drq_end ?_
           refine dr_one 2 HT rfl (by kernel_rfl) (by decide) (fun K hK => ?_)
           refine goes_ Try.func9 (by kernel_rfl) rfl #[.agg #[.string a0.f0, .int .i64 a0.f1, .slice Ap0 a0.f2.length cp0, .slice Ap1 a0.f3.length cp1, .slice Ap2 a0.f4.length cp2]] (by rfl) rfl rfl (by simp only [List.map_toArray, List.map_cons, List.map_nil]; rfl) ?_; refine (laws_toClient.calls ht202001.out (HS.ro gp0) lp0 (HS.ro gp1) lp1 (HS.ro gp2) lp2).mono ?_; rintro _ wt202001 ⟨v202002, v202003, v202004, rfl, HQ⟩; refine ⟨_, rfl, ?_⟩; replace HS := HS.call HQ; clear HQ; (try clear F); obtain ⟨B202002, d202002, rfl, m202002⟩ := HS.form 20 rfl; obtain ⟨B202003, d202003, rfl, m202003⟩ := HS.form 21 rfl; obtain ⟨B202004, d202004, rfl, m202004⟩ := HS.form 22 rfl
           (try simp only [hpn, hpm] at HS)
           have F := HS.boxes; simp only [boxFacts, and_true] at F
           refine hK.out _ _ ⟨_, HS⟩ (fun HH => ?_)
           clear hK K
           refine norm_ (a' := ?_) ?_ ?_
           rotate_left
           · show Act.put _ (some 74) _ = _; simp only [Act.put, List.setIfInBounds_toArray, List.set_cons_zero, List.set_cons_succ, i64_w, i32_w]; rfl
           refine dr_one 3 HT rfl (by kernel_rfl) (by decide) (fun K hK => ?_)
           refine goes_ Try.func11 (by kernel_rfl) rfl #[.agg #[.string t14.f0, .int .i64 t14.f1, .slice B15 t14.f2.length d15, .slice B16 t14.f3.length d16, .slice B17 t14.f4.length d17], .agg #[.string t202001.f0, .int .i64 t202001.f1, .slice B202002 t202001.f2.length d202002, .slice B202003 t202001.f3.length d202003, .slice B202004 t202001.f4.length d202004]] (by rfl) rfl rfl (by simp only [List.map_toArray, List.map_cons, List.map_nil]; rfl) ?_; refine (laws_eqClient.calls ht203001.out (HS.rd 10 rfl) m15 (HS.rd 11 rfl) m16 (HS.rd 12 rfl) m17 (HS.rd 20 rfl) m202002 (HS.rd 21 rfl) m202003 (HS.rd 22 rfl) m202004).mono ?_; rintro _ wt203001 ⟨rfl, HQ⟩; refine ⟨_, rfl, ?_⟩; replace HS := HS.call HQ; clear HQ; (try clear F)
           (try simp only [hpn, hpm] at HS)
           have F := HS.boxes; simp only [boxFacts, and_true] at F
           refine hK.out _ _ ⟨_, HS⟩ (fun HH => ?_)
           clear hK K
           refine norm_ (a' := ?_) ?_ ?_
           rotate_left
           · show Act.put _ (some 75) _ = _; simp only [Act.put, List.setIfInBounds_toArray, List.set_cons_zero, List.set_cons_succ, i64_w, i32_w]; rfl
           refine drq_of [(4, some 76)] ?_
           repeat (first | (refine drq_pure HT (v := ?_) (a' := ?_) rfl rfl (by kernel_rfl) (fun _ _ _ h => h) (.inl ⟨by rfl, ?_⟩) ?_ ?_; rotate_left; (intro w'; go_simp; with_reducible rfl); rotate_left; (simp only [Act.put, List.setIfInBounds_toArray, List.set_cons_zero, List.set_cons_succ, i64_w, i32_w]; rfl)))
           refine drq_end ?_
           refine done_ (done_of HT.out (by kernel_rfl)) ?_
           (try clear F)
           have F := HS.boxes; simp only [boxFacts, and_true] at F
           by_cases c47 : t203001 = true
           · replace H := zpos c47 H
             subst c47
             (try simp only [dcn, if_true, Bool.false_eq_true, if_false])
             (try go_wp2)
             replace H := zbind H; obtain ⟨t302001, ht302001, H⟩ := H
             replace H := zbind H; obtain ⟨t303001, ht303001, H⟩ := H
             refine dr_start [] HS #[false, false, false, false, false] (by kernel_rfl) rfl rfl laws_FnExactAskNow.tT16 (fun w49 HT HS HH => ?_)
             (try clear F)
             refine drq_of [(0, some 77), (1, some 78)] ?_
             repeat (first | (refine drq_take HT HH (v := ?_) (a' := ?_) rfl rfl (by kernel_rfl) (fun _ _ _ h => h) (.inl ⟨by rfl, ?_⟩) ?_ ?_; rotate_left; (rintro w' ⟨rs', HS'⟩; have F := HS'.boxes; simp only [boxFacts, List.cons_append, List.nil_append, and_true] at F; go_simp; with_reducible rfl); rotate_left; (simp only [Act.put, List.setIfInBounds_toArray, List.set_cons_zero, List.set_cons_succ, i64_w, i32_w]; rfl)))
             refine drq_end ?_
             refine dr_one 2 HT rfl (by kernel_rfl) (by decide) (fun K hK => ?_)
             refine goes_ Try.func32 (by kernel_rfl) rfl #[.agg #[.slice Ap3 a1.f0.length cp3, .int .i64 a1.f1, .int .i64 a1.f2, .int .i64 a1.f3, .int .i64 a1.f4, .bool a1.f5]] (by rfl) rfl rfl (by simp only [List.map_toArray, List.map_cons, List.map_nil]; rfl) ?_; refine (laws_toAsk.calls ht302001.out (HS.ro gp3) lp3).mono ?_; rintro _ wt302001 ⟨v302002, rfl, HQ⟩; refine ⟨_, rfl, ?_⟩; replace HS := HS.call HQ; clear HQ; (try clear F); obtain ⟨B302002, d302002, rfl, m302002⟩ := HS.form 23 rfl
             (try simp only [hpn, hpm] at HS)
             have F := HS.boxes; simp only [boxFacts, and_true] at F
             refine hK.out _ _ ⟨_, HS⟩ (fun HH => ?_)
             clear hK K
             refine norm_ (a' := ?_) ?_ ?_
             rotate_left
             · show Act.put _ (some 79) _ = _; simp only [Act.put, List.setIfInBounds_toArray, List.set_cons_zero, List.set_cons_succ, i64_w, i32_w]; rfl
             refine dr_one 3 HT rfl (by kernel_rfl) (by decide) (fun K hK => ?_)
             refine goes_ Try.func34 (by kernel_rfl) rfl #[.agg #[.slice B24 t23.f0.length d24, .int .i64 t23.f1, .int .i64 t23.f2, .int .i64 t23.f3, .int .i64 t23.f4, .bool t23.f5], .agg #[.slice B302002 t302001.f0.length d302002, .int .i64 t302001.f1, .int .i64 t302001.f2, .int .i64 t302001.f3, .int .i64 t302001.f4, .bool t302001.f5]] (by rfl) rfl rfl (by simp only [List.map_toArray, List.map_cons, List.map_nil]; rfl) ?_; refine (laws_eqAsk.calls ht303001.out (HS.rd 14 rfl) m24 (HS.rd 23 rfl) m302002).mono ?_; rintro _ wt303001 ⟨rfl, HQ⟩; refine ⟨_, rfl, ?_⟩; replace HS := HS.call HQ; clear HQ; (try clear F)
             (try simp only [hpn, hpm] at HS)
             have F := HS.boxes; simp only [boxFacts, and_true] at F
             refine hK.out _ _ ⟨_, HS⟩ (fun HH => ?_)
             clear hK K
             refine norm_ (a' := ?_) ?_ ?_
             rotate_left
             · show Act.put _ (some 80) _ = _; simp only [Act.put, List.setIfInBounds_toArray, List.set_cons_zero, List.set_cons_succ, i64_w, i32_w]; rfl
             refine drq_of [(4, some 81)] ?_
             repeat (first | (refine drq_pure HT (v := ?_) (a' := ?_) rfl rfl (by kernel_rfl) (fun _ _ _ h => h) (.inl ⟨by rfl, ?_⟩) ?_ ?_; rotate_left; (intro w'; go_simp; with_reducible rfl); rotate_left; (simp only [Act.put, List.setIfInBounds_toArray, List.set_cons_zero, List.set_cons_succ, i64_w, i32_w]; rfl)))
             refine drq_end ?_
             refine done_ (done_of HT.out (by kernel_rfl)) ?_
             (try clear F)
             have F := HS.boxes; simp only [boxFacts, and_true] at F
             by_cases c51 : t303001 = true
             · replace H := zpos c51 H
               subst c51
               (try simp only [dcn, if_true, Bool.false_eq_true, if_false])
               replace H := zbind H; obtain ⟨t52, ht52, H⟩ := H
               replace H := zbind H; obtain ⟨t54, ht54, H⟩ := H
               by_cases c56 : t54.1 < 0
               · replace H := zpos c56 H
                 replace c56 := eq_true c56
                 obtain rfl := zsome H
                 go_wp2_with (first | ((with_reducible refine gate_dst (N := 84) rfl ?_); refine HS.lend [10, 11, 12] (by decide) [.own (Zd.slice 89 q89) t14.f2 [.slice B15 t14.f2.length d15], .own (Zd.slice 150 q150) t14.f3 [.slice B16 t14.f3.length d16], .own (Zd.slice 3 (Zd.int .i64)) t14.f4 [.slice B17 t14.f4.length d17]] rfl (fun A' HL HD HA HB => ?_); refine ev_call rfl Try.func12 (by kernel_rfl) rfl #[.agg #[.string t14.f0, .int .i64 t14.f1, .slice B15 t14.f2.length d15, .slice B16 t14.f3.length d16, .slice B17 t14.f4.length d17], .int .i64 1] rfl (by simp only [List.map_toArray, List.map_cons, List.map_nil]; rfl) ?_; refine (laws_markClient.calls ht52.out HA).mono ?_; rintro _ wt52 ⟨rfl, HQ⟩; refine ⟨_, rfl, ?_⟩; replace HS := HB _ _ HQ (Nat.le_of_ble_eq_true rfl); clear HQ HA HB HL HD; (try simp only [hpn, hpm] at HS); (try clear F); (try simp only [hpn, hpm] at HS); have F := HS.boxes; simp only [boxFacts, and_true] at F) | ((with_reducible refine gate_dst (N := 87) rfl ?_); refine HS.lend [14] (by decide) [.own (Zd.slice 9 Zd.string) t23.f0 [.slice B24 t23.f0.length d24]] rfl (fun A' HL HD HA HB => ?_); refine ev_call rfl Try.func35 (by kernel_rfl) rfl #[.agg #[.slice B24 t23.f0.length d24, .int .i64 t23.f1, .int .i64 t23.f2, .int .i64 t23.f3, .int .i64 t23.f4, .bool t23.f5], .int .i64 t52.1] rfl (by simp only [List.map_toArray, List.map_cons, List.map_nil]; rfl) ?_; refine (laws_markAsk.calls ht54.out HA).mono ?_; rintro _ wt54 ⟨rfl, HQ⟩; refine ⟨_, rfl, ?_⟩; replace HS := HB _ _ HQ (Nat.le_of_ble_eq_true rfl); clear HQ HA HB HL HD; (try simp only [hpn, hpm] at HS); (try clear F); (try simp only [hpn, hpm] at HS); have F := HS.boxes; simp only [boxFacts, and_true] at F))
                 go_ret
                 exact ⟨rfl, HS.pick [] (by decide) (by rfl)⟩
               · replace H := zneg c56 H
                 replace c56 := eq_false c56
                 replace H := zbind H; obtain ⟨t57, ht57, H⟩ := H
                 by_cases c59 : t57 = true
                 · replace H := zpos c59 H
                   subst c59
                   replace H := zbind H; obtain ⟨t60, ht60, H⟩ := H
                   replace H := zbind H; obtain ⟨t62, ht62, H⟩ := H
                   go_upto_if 113 with (first | ((with_reducible refine gate_dst (N := 84) rfl ?_); refine HS.lend [10, 11, 12] (by decide) [.own (Zd.slice 89 q89) t14.f2 [.slice B15 t14.f2.length d15], .own (Zd.slice 150 q150) t14.f3 [.slice B16 t14.f3.length d16], .own (Zd.slice 3 (Zd.int .i64)) t14.f4 [.slice B17 t14.f4.length d17]] rfl (fun A' HL HD HA HB => ?_); refine ev_call rfl Try.func12 (by kernel_rfl) rfl #[.agg #[.string t14.f0, .int .i64 t14.f1, .slice B15 t14.f2.length d15, .slice B16 t14.f3.length d16, .slice B17 t14.f4.length d17], .int .i64 1] rfl (by simp only [List.map_toArray, List.map_cons, List.map_nil]; rfl) ?_; refine (laws_markClient.calls ht52.out HA).mono ?_; rintro _ wt52 ⟨rfl, HQ⟩; refine ⟨_, rfl, ?_⟩; replace HS := HB _ _ HQ (Nat.le_of_ble_eq_true rfl); clear HQ HA HB HL HD; (try simp only [hpn, hpm] at HS); (try clear F); (try simp only [hpn, hpm] at HS); have F := HS.boxes; simp only [boxFacts, and_true] at F) | ((with_reducible refine gate_dst (N := 87) rfl ?_); refine HS.lend [14] (by decide) [.own (Zd.slice 9 Zd.string) t23.f0 [.slice B24 t23.f0.length d24]] rfl (fun A' HL HD HA HB => ?_); refine ev_call rfl Try.func35 (by kernel_rfl) rfl #[.agg #[.slice B24 t23.f0.length d24, .int .i64 t23.f1, .int .i64 t23.f2, .int .i64 t23.f3, .int .i64 t23.f4, .bool t23.f5], .int .i64 t52.1] rfl (by simp only [List.map_toArray, List.map_cons, List.map_nil]; rfl) ?_; refine (laws_markAsk.calls ht54.out HA).mono ?_; rintro _ wt54 ⟨rfl, HQ⟩; refine ⟨_, rfl, ?_⟩; replace HS := HB _ _ HQ (Nat.le_of_ble_eq_true rfl); clear HQ HA HB HL HD; (try simp only [hpn, hpm] at HS); (try clear F); (try simp only [hpn, hpm] at HS); have F := HS.boxes; simp only [boxFacts, and_true] at F) | ((with_reducible refine gate_dst (N := 93) rfl ?_); refine gate_guard (by rfl) ?_; refine ev_call rfl Try.func11 (by kernel_rfl) rfl #[.agg #[.string t30.1.f0, .int .i64 t30.1.f1, .slice B31 t30.1.f2.length d31, .slice B32 t30.1.f3.length d32, .slice B33 t30.1.f4.length d33], .agg #[.string t106001.1.f0, .int .i64 t106001.1.f1, .slice B106002 t106001.1.f2.length d106002, .slice B106003 t106001.1.f3.length d106003, .slice B106004 t106001.1.f4.length d106004]] rfl (by simp only [List.map_toArray, List.map_cons, List.map_nil]; rfl) ?_; refine (laws_eqClient.calls ht57.out (HS.rd 16 rfl) m31 (HS.rd 17 rfl) m32 (HS.rd 18 rfl) m33 (HS.rd 6 rfl) m106002 (HS.rd 7 rfl) m106003 (HS.rd 8 rfl) m106004).mono ?_; rintro _ wt57 ⟨rfl, HQ⟩; refine ⟨_, rfl, ?_⟩; replace HS := HS.call HQ; clear HQ; (try clear F); (try simp only [hpn, hpm] at HS); have F := HS.boxes; simp only [boxFacts, and_true] at F) | ((with_reducible refine gate_dst (N := 108) rfl ?_); refine HS.lend [16, 17, 18] (by decide) [.own (Zd.slice 89 q89) t30.1.f2 [.slice B31 t30.1.f2.length d31], .own (Zd.slice 150 q150) t30.1.f3 [.slice B32 t30.1.f3.length d32], .own (Zd.slice 3 (Zd.int .i64)) t30.1.f4 [.slice B33 t30.1.f4.length d33]] rfl (fun A' HL HD HA HB => ?_); refine ev_call rfl Try.func12 (by kernel_rfl) rfl #[.agg #[.string t30.1.f0, .int .i64 t30.1.f1, .slice B31 t30.1.f2.length d31, .slice B32 t30.1.f3.length d32, .slice B33 t30.1.f4.length d33], .int .i64 1] rfl (by simp only [List.map_toArray, List.map_cons, List.map_nil]; rfl) ?_; refine (laws_markClient.calls ht60.out HA).mono ?_; rintro _ wt60 ⟨rfl, HQ⟩; refine ⟨_, rfl, ?_⟩; replace HS := HB _ _ HQ (Nat.le_of_ble_eq_true rfl); clear HQ HA HB HL HD; (try simp only [hpn, hpm] at HS); (try clear F); (try simp only [hpn, hpm] at HS); have F := HS.boxes; simp only [boxFacts, and_true] at F) | ((with_reducible refine gate_dst (N := 111) rfl ?_); refine ev_call rfl Try.func13 (by kernel_rfl) rfl #[.agg #[.string t30.1.f0, .int .i64 t30.1.f1, .slice B31 t30.1.f2.length d31, .slice B32 t30.1.f3.length d32, .slice B33 t30.1.f4.length d33], .int .i64 1] rfl (by simp only [List.map_toArray, List.map_cons, List.map_nil]; rfl) ?_; refine (laws_heldClient.calls ht62.out (HS.rd 16 rfl) m31 (HS.rd 17 rfl) m32 (HS.rd 18 rfl) m33).mono ?_; rintro _ wt62 ⟨rfl, HQ⟩; refine ⟨_, rfl, ?_⟩; replace HS := HS.call HQ; clear HQ; (try clear F); (try simp only [hpn, hpm] at HS); have F := HS.boxes; simp only [boxFacts, and_true] at F))
                   by_cases c64 : t62 < 0
                   · replace H := zpos c64 H
                     replace c64 := eq_true c64
                     (try simp only [c64, dcn])
                     obtain rfl := zsome H
                     go_wp2
                     go_ret
                     exact ⟨rfl, HS.pick [] (by decide) (by rfl)⟩
                   · replace H := zneg c64 H
                     replace c64 := eq_false c64
                     (try simp only [c64, dcn])
                     by_cases c65 : t62 = t60.1
                     · replace H := zpos c65 H
                       have c65a := beq_iff_eq.mpr c65
                       have c65b := bne_eq_false_iff_eq.mpr c65
                       clear c65
                       (try simp only [c65a, c65b, dcn])
                       (try go_wp2)
                       replace H := zbind H; obtain ⟨t401001, ht401001, H⟩ := H
                       replace H := zbind H; obtain ⟨t403001, ht403001, H⟩ := H
                       replace H := zbind H; obtain ⟨t406001, ht406001, H⟩ := H
                       refine dr_start [12] HS #[false, false, false, false, false, false, false, false, false, false, false, false, false, false, false] (by kernel_rfl) rfl rfl laws_FnExactAskNow.tT31 (fun w67 HT HS HH => ?_)
                       (try clear F)
                       refine join_ 0 #[true, true, true, true, true, true, true, true, true, true, true, true, true, true, true] (fun ((v401002, v401003, v401004, v403002, v406002, v406003, v406004, g21) : Value × Value × Value × Value × Value × Value × Value × Nat) => ([(118, .agg #[.string a0.f0, .int .i64 a0.f1, .slice Ap0 a0.f2.length cp0, .slice Ap1 a0.f3.length cp1, .slice Ap2 a0.f4.length cp2]), (119, .agg #[.string t401001.f0, .int .i64 t401001.f1, v401002, v401003, v401004]), (120, .agg #[.slice Ap3 a1.f0.length cp3, .int .i64 a1.f1, .int .i64 a1.f2, .int .i64 a1.f3, .int .i64 a1.f4, .bool a1.f5]), (121, .agg #[v403002, .int .i64 t403001.f1, .int .i64 t403001.f2, .int .i64 t403001.f3, .int .i64 t403001.f4, .bool t403001.f5]), (122, .int .i64 a2), (123, .int .i64 a3), (124, .tuple #[.agg #[.string t406001.1.f0, .int .i64 t406001.1.f1, v406002, v406003, v406004], .string t406001.2.1, .bool t406001.2.2]), (117, .tuple #[.agg #[.string t406001.1.f0, .int .i64 t406001.1.f1, v406002, v406003, v406004], .string t406001.2.1, .bool t406001.2.2]), (125, .agg #[.string t406001.1.f0, .int .i64 t406001.1.f1, v406002, v406003, v406004]), (126, .string t406001.2.1), (127, .bool t406001.2.2), (21, .pointer (some ⟨g21, 0, none⟩)), (22, .string t406001.2.1), (23, .bool t406001.2.2)] : List (Tmp × Value))) (fun ((v401002, v401003, v401004, v403002, v406002, v406003, v406004, g21) : Value × Value × Value × Value × Value × Value × Value × Nat) w' => Hp noFP w w' [.box g4 [.string a0.f0, .int .i64 a0.f1, .slice Ap0 a0.f2.length cp0, .slice Ap1 a0.f3.length cp1, .slice Ap2 a0.f4.length cp2] 26, .box g5 [.slice Ap3 a1.f0.length cp3, .int .i64 a1.f1, .int .i64 a1.f2, .int .i64 a1.f3, .int .i64 a1.f4, .bool a1.f5] 75, .own (Zd.slice 89 q89) t101001.f2 [.slice B101002 t101001.f2.length d101002], .own (Zd.slice 150 q150) t101001.f3 [.slice B101003 t101001.f3.length d101003], .own (Zd.slice 3 (Zd.int .i64)) t101001.f4 [.slice B101004 t101001.f4.length d101004], .own (Zd.slice 9 Zd.string) t103001.f0 [.slice B103002 t103001.f0.length d103002], .own (Zd.slice 89 q89) t106001.1.f2 [.slice B106002 t106001.1.f2.length d106002], .own (Zd.slice 150 q150) t106001.1.f3 [.slice B106003 t106001.1.f3.length d106003], .own (Zd.slice 3 (Zd.int .i64)) t106001.1.f4 [.slice B106004 t106001.1.f4.length d106004], .box g10 [.string t106001.1.f0, .int .i64 t106001.1.f1, .slice B106002 t106001.1.f2.length d106002, .slice B106003 t106001.1.f3.length d106003, .slice B106004 t106001.1.f4.length d106004] 31, .own (Zd.slice 89 q89) t52.2.1 [.slice B15 t14.f2.length d15], .own (Zd.slice 150 q150) t52.2.2.1 [.slice B16 t14.f3.length d16], .own (Zd.slice 3 (Zd.int .i64)) t52.2.2.2 [.slice B17 t14.f4.length d17], .box g13 [.string t14.f0, .int .i64 t14.f1, .slice B15 t14.f2.length d15, .slice B16 t14.f3.length d16, .slice B17 t14.f4.length d17] 31, .own (Zd.slice 9 Zd.string) t54.2 [.slice B24 t23.f0.length d24], .box g14 [.slice B24 t23.f0.length d24, .int .i64 t23.f1, .int .i64 t23.f2, .int .i64 t23.f3, .int .i64 t23.f4, .bool t23.f5] 79, .own (Zd.slice 89 q89) t60.2.1 [.slice B31 t30.1.f2.length d31], .own (Zd.slice 150 q150) t60.2.2.1 [.slice B32 t30.1.f3.length d32], .own (Zd.slice 3 (Zd.int .i64)) t60.2.2.2 [.slice B33 t30.1.f4.length d33], .box g15 [.string t30.1.f0, .int .i64 t30.1.f1, .slice B31 t30.1.f2.length d31, .slice B32 t30.1.f3.length d32, .slice B33 t30.1.f4.length d33] 31, .own (Zd.slice 89 q89) t202001.f2 [.slice B202002 t202001.f2.length d202002], .own (Zd.slice 150 q150) t202001.f3 [.slice B202003 t202001.f3.length d202003], .own (Zd.slice 3 (Zd.int .i64)) t202001.f4 [.slice B202004 t202001.f4.length d202004], .own (Zd.slice 9 Zd.string) t302001.f0 [.slice B302002 t302001.f0.length d302002], .own (Zd.slice 89 q89) t401001.f2 [v401002], .own (Zd.slice 150 q150) t401001.f3 [v401003], .own (Zd.slice 3 (Zd.int .i64)) t401001.f4 [v401004], .own (Zd.slice 9 Zd.string) t403001.f0 [v403002], .own (Zd.slice 89 q89) t406001.1.f2 [v406002], .own (Zd.slice 150 q150) t406001.1.f3 [v406003], .own (Zd.slice 3 (Zd.int .i64)) t406001.1.f4 [v406004], .box g21 [.string t406001.1.f0, .int .i64 t406001.1.f1, v406002, v406003, v406004] 31]) ?_ ?_
                       rotate_left
                       · intro hJ
                         refine drq_of [(0, some 118), (2, some 120), (4, some 122), (5, some 123)] ?_
                         repeat (first | (refine drq_pure HT (v := ?_) (a' := ?_) rfl rfl (by kernel_rfl) (fun _ _ _ h => h) (.inl ⟨by rfl, ?_⟩) ?_ ?_; rotate_left; (intro w'; go_simp; with_reducible rfl); rotate_left; (simp only [Act.put, List.setIfInBounds_toArray, List.set_cons_zero, List.set_cons_succ, i64_w, i32_w]; rfl)) | (refine drq_take HT HH (v := ?_) (a' := ?_) rfl rfl (by kernel_rfl) (fun _ _ _ h => h) (.inl ⟨by rfl, ?_⟩) ?_ ?_; rotate_left; (rintro w' ⟨rs', HS'⟩; have F := HS'.boxes; simp only [boxFacts, List.cons_append, List.nil_append, and_true] at F; go_simp; with_reducible rfl); rotate_left; (simp only [Act.put, List.setIfInBounds_toArray, List.set_cons_zero, List.set_cons_succ, i64_w, i32_w]; rfl)))
                         refine drq_end ?_
                         refine dr_any [1, 11] HT (by kernel_rfl) (by decide) (AllReadyL.cons rfl (by decide) (fun K hK => ?_) (AllReadyL.cons rfl (by decide) (fun K hK => ?_) AllReadyL.nil))
                         · refine goes_ Try.func9 (by kernel_rfl) rfl #[.agg #[.string a0.f0, .int .i64 a0.f1, .slice Ap0 a0.f2.length cp0, .slice Ap1 a0.f3.length cp1, .slice Ap2 a0.f4.length cp2]] (by rfl) rfl rfl (by simp only [List.map_toArray, List.map_cons, List.map_nil]; rfl) ?_; refine (laws_toClient.calls ht401001.out (HS.ro gp0) lp0 (HS.ro gp1) lp1 (HS.ro gp2) lp2).mono ?_; rintro _ wt401001 ⟨v401002, v401003, v401004, rfl, HQ⟩; refine ⟨_, rfl, ?_⟩; replace HS := HS.call HQ; clear HQ; (try clear F); obtain ⟨B401002, d401002, rfl, m401002⟩ := HS.form 24 rfl; obtain ⟨B401003, d401003, rfl, m401003⟩ := HS.form 25 rfl; obtain ⟨B401004, d401004, rfl, m401004⟩ := HS.form 26 rfl
                           (try simp only [hpn, hpm] at HS)
                           have F := HS.boxes; simp only [boxFacts, and_true] at F
                           refine hK.out _ _ ⟨_, HS⟩ (fun HH => ?_)
                           clear hK K
                           refine norm_ (a' := ?_) ?_ ?_
                           rotate_left
                           · show Act.put _ (some 119) _ = _; simp only [Act.put, List.setIfInBounds_toArray, List.set_cons_zero, List.set_cons_succ, i64_w, i32_w]; rfl
                           refine dr_any [3, 11] HT (by kernel_rfl) (by decide) (AllReadyL.cons rfl (by decide) (fun K hK => ?_) (AllReadyL.cons rfl (by decide) (fun K hK => ?_) AllReadyL.nil))
                           · refine goes_ Try.func32 (by kernel_rfl) rfl #[.agg #[.slice Ap3 a1.f0.length cp3, .int .i64 a1.f1, .int .i64 a1.f2, .int .i64 a1.f3, .int .i64 a1.f4, .bool a1.f5]] (by rfl) rfl rfl (by simp only [List.map_toArray, List.map_cons, List.map_nil]; rfl) ?_; refine (laws_toAsk.calls ht403001.out (HS.ro gp3) lp3).mono ?_; rintro _ wt403001 ⟨v403002, rfl, HQ⟩; refine ⟨_, rfl, ?_⟩; replace HS := HS.call HQ; clear HQ; (try clear F); obtain ⟨B403002, d403002, rfl, m403002⟩ := HS.form 27 rfl
                             (try simp only [hpn, hpm] at HS)
                             have F := HS.boxes; simp only [boxFacts, and_true] at F
                             refine hK.out _ _ ⟨_, HS⟩ (fun HH => ?_)
                             clear hK K
                             refine norm_ (a' := ?_) ?_ ?_
                             rotate_left
                             · show Act.put _ (some 121) _ = _; simp only [Act.put, List.setIfInBounds_toArray, List.set_cons_zero, List.set_cons_succ, i64_w, i32_w]; rfl
                             refine dr_any [6, 11] HT (by kernel_rfl) (by decide) (AllReadyL.cons rfl (by decide) (fun K hK => ?_) (AllReadyL.cons rfl (by decide) (fun K hK => ?_) AllReadyL.nil))
                             · refine goes_ Try.func33 (by kernel_rfl) rfl #[.agg #[.string t401001.f0, .int .i64 t401001.f1, .slice B401002 t401001.f2.length d401002, .slice B401003 t401001.f3.length d401003, .slice B401004 t401001.f4.length d401004], .agg #[.slice B403002 t403001.f0.length d403002, .int .i64 t403001.f1, .int .i64 t403001.f2, .int .i64 t403001.f3, .int .i64 t403001.f4, .bool t403001.f5], .int .i64 a2, .int .i64 a3] (by rfl) rfl rfl (by simp only [List.map_toArray, List.map_cons, List.map_nil]; rfl) ?_; refine (impl_AskNow.calls ht406001.out (HS.rd 24 rfl) m401002 (HS.rd 25 rfl) m401003 (HS.rd 26 rfl) m401004 (HS.rd 27 rfl) m403002).mono ?_; rintro _ wt406001 ⟨v406002, v406003, v406004, rfl, HQ⟩; refine ⟨_, rfl, ?_⟩; replace HS := HS.call HQ; clear HQ; (try clear F); obtain ⟨B406002, d406002, rfl, m406002⟩ := HS.form 28 rfl; obtain ⟨B406003, d406003, rfl, m406003⟩ := HS.form 29 rfl; obtain ⟨B406004, d406004, rfl, m406004⟩ := HS.form 30 rfl
                               (try simp only [hpn, hpm] at HS)
                               have F := HS.boxes; simp only [boxFacts, and_true] at F
                               refine hK.out _ _ ⟨_, HS⟩ (fun HH => ?_)
                               clear hK K
                               refine norm_ (a' := ?_) ?_ ?_
                               rotate_left
                               · show Act.put _ (some 124) _ = _; simp only [Act.put, List.setIfInBounds_toArray, List.set_cons_zero, List.set_cons_succ, i64_w, i32_w]; rfl
                               refine drq_of [(7, some 117), (8, some 125), (9, some 126), (10, some 127)] ?_
                               repeat (first | (refine drq_pure HT (v := ?_) (a' := ?_) rfl rfl (by kernel_rfl) (fun _ _ _ h => h) (.inl ⟨by rfl, ?_⟩) ?_ ?_; rotate_left; (intro w'; go_simp; with_reducible rfl); rotate_left; (simp only [Act.put, List.setIfInBounds_toArray, List.set_cons_zero, List.set_cons_succ, i64_w, i32_w]; rfl)))
                               refine drq_end ?_
                               refine dr_one 11 HT rfl (by kernel_rfl) (by decide) (fun K hK => ?_)
                               refine if_wp (by rfl) ?_; refine wp_box HS (by first | (go_simp; done) | (go_simp; rfl)) rfl ?_; clear HS; (try clear F); intro g21 w21 HS
                               (try simp only [hpn, hpm] at HS)
                               have F := HS.boxes; simp only [boxFacts, and_true] at F
                               refine hK.out _ _ ⟨_, HS⟩ (fun HH => ?_)
                               clear hK K
                               refine norm_ (a' := ?_) ?_ ?_
                               rotate_left
                               · show Act.put _ (some 21) _ = _; simp only [Act.put, List.setIfInBounds_toArray, List.set_cons_zero, List.set_cons_succ, i64_w, i32_w]; rfl
                               refine dr_last 12 HT rfl (by kernel_rfl) (by decide) (fun K hK => ?_)
                               refine if_wp (by rfl) ?_; refine wp_store 31 0 HS (seg := [.string t406001.1.f0, .int .i64 t406001.1.f1, .slice B406002 t406001.1.f2.length d406002, .slice B406003 t406001.1.f3.length d406003, .slice B406004 t406001.1.f4.length d406004]) rfl rfl rfl rfl rfl rfl (by kernel_rfl) (by simp [wrt]) (by simp [Value.oneCell']) ?_; clear HS; (try clear F); intro w412001 HS
                               (try simp only [hpn, hpm] at HS)
                               have F := HS.boxes; simp only [boxFacts, and_true] at F
                               refine hK.out _ _ ?_
                               clear hK K
                               refine drq_of [(13, some 22), (14, some 23)] ?_
                               repeat (first | (refine drq_pure HT (v := ?_) (a' := ?_) rfl rfl (by kernel_rfl) (fun _ _ _ h => h) (.inl ⟨by rfl, ?_⟩) ?_ ?_; rotate_left; (intro w'; go_simp; with_reducible rfl); rotate_left; (simp only [Act.put, List.setIfInBounds_toArray, List.set_cons_zero, List.set_cons_succ, i64_w, i32_w]; rfl)))
                               refine drq_end ?_
                               refine norm_ ?_ (hJ (.slice B401002 t401001.f2.length d401002, .slice B401003 t401001.f3.length d401003, .slice B401004 t401001.f4.length d401004, .slice B403002 t403001.f0.length d403002, .slice B406002 t406001.1.f2.length d406002, .slice B406003 t406001.1.f3.length d406003, .slice B406004 t406001.1.f4.length d406004, g21) _ (HS.arr [some 0, some 1, some 2, some 3, some 4, some 5, some 6, some 7, some 8, some 9, some 10, some 11, some 12, some 13, some 14, some 15, some 16, some 17, some 18, some 19, some 20, some 21, some 22, some 23, some 24, some 25, some 26, some 27, some 28, some 29, some 30, some 31] (by decide)))
                               simp only [putAll, Act.put, List.setIfInBounds_toArray, List.set_cons_zero, List.set_cons_succ, i64_w, i32_w]
                               (try rfl)
                             · refine if_wp (by rfl) ?_; refine wp_box HS (by first | (go_simp; done) | (go_simp; rfl)) rfl ?_; clear HS; (try clear F); intro g21 w21 HS
                               (try simp only [hpn, hpm] at HS)
                               have F := HS.boxes; simp only [boxFacts, and_true] at F
                               refine hK.out _ _ ⟨_, HS⟩ (fun HH => ?_)
                               clear hK K
                               refine norm_ (a' := ?_) ?_ ?_
                               rotate_left
                               · show Act.put _ (some 21) _ = _; simp only [Act.put, List.setIfInBounds_toArray, List.set_cons_zero, List.set_cons_succ, i64_w, i32_w]; rfl
                               refine dr_one 6 HT rfl (by kernel_rfl) (by decide) (fun K hK => ?_)
                               refine goes_ Try.func33 (by kernel_rfl) rfl #[.agg #[.string t401001.f0, .int .i64 t401001.f1, .slice B401002 t401001.f2.length d401002, .slice B401003 t401001.f3.length d401003, .slice B401004 t401001.f4.length d401004], .agg #[.slice B403002 t403001.f0.length d403002, .int .i64 t403001.f1, .int .i64 t403001.f2, .int .i64 t403001.f3, .int .i64 t403001.f4, .bool t403001.f5], .int .i64 a2, .int .i64 a3] (by rfl) rfl rfl (by simp only [List.map_toArray, List.map_cons, List.map_nil]; rfl) ?_; refine (impl_AskNow.calls ht406001.out (HS.rd 24 rfl) m401002 (HS.rd 25 rfl) m401003 (HS.rd 26 rfl) m401004 (HS.rd 27 rfl) m403002).mono ?_; rintro _ wt406001 ⟨v406002, v406003, v406004, rfl, HQ⟩; refine ⟨_, rfl, ?_⟩; replace HS := HS.call HQ; clear HQ; (try clear F); obtain ⟨B406002, d406002, rfl, m406002⟩ := HS.form 29 rfl; obtain ⟨B406003, d406003, rfl, m406003⟩ := HS.form 30 rfl; obtain ⟨B406004, d406004, rfl, m406004⟩ := HS.form 31 rfl
                               (try simp only [hpn, hpm] at HS)
                               have F := HS.boxes; simp only [boxFacts, and_true] at F
                               refine hK.out _ _ ⟨_, HS⟩ (fun HH => ?_)
                               clear hK K
                               refine norm_ (a' := ?_) ?_ ?_
                               rotate_left
                               · show Act.put _ (some 124) _ = _; simp only [Act.put, List.setIfInBounds_toArray, List.set_cons_zero, List.set_cons_succ, i64_w, i32_w]; rfl
                               refine drq_of [(7, some 117), (8, some 125), (9, some 126), (10, some 127)] ?_
                               repeat (first | (refine drq_pure HT (v := ?_) (a' := ?_) rfl rfl (by kernel_rfl) (fun _ _ _ h => h) (.inl ⟨by rfl, ?_⟩) ?_ ?_; rotate_left; (intro w'; go_simp; with_reducible rfl); rotate_left; (simp only [Act.put, List.setIfInBounds_toArray, List.set_cons_zero, List.set_cons_succ, i64_w, i32_w]; rfl)))
                               refine drq_end ?_
                               refine dr_last 12 HT rfl (by kernel_rfl) (by decide) (fun K hK => ?_)
                               refine if_wp (by rfl) ?_; refine wp_store 28 0 HS (seg := [.string t406001.1.f0, .int .i64 t406001.1.f1, .slice B406002 t406001.1.f2.length d406002, .slice B406003 t406001.1.f3.length d406003, .slice B406004 t406001.1.f4.length d406004]) rfl rfl rfl rfl rfl rfl (by kernel_rfl) (by simp [wrt]) (by simp [Value.oneCell']) ?_; clear HS; (try clear F); intro w412001 HS
                               (try simp only [hpn, hpm] at HS)
                               have F := HS.boxes; simp only [boxFacts, and_true] at F
                               refine hK.out _ _ ?_
                               clear hK K
                               refine drq_of [(13, some 22), (14, some 23)] ?_
                               repeat (first | (refine drq_pure HT (v := ?_) (a' := ?_) rfl rfl (by kernel_rfl) (fun _ _ _ h => h) (.inl ⟨by rfl, ?_⟩) ?_ ?_; rotate_left; (intro w'; go_simp; with_reducible rfl); rotate_left; (simp only [Act.put, List.setIfInBounds_toArray, List.set_cons_zero, List.set_cons_succ, i64_w, i32_w]; rfl)))
                               refine drq_end ?_
                               refine norm_ ?_ (hJ (.slice B401002 t401001.f2.length d401002, .slice B401003 t401001.f3.length d401003, .slice B401004 t401001.f4.length d401004, .slice B403002 t403001.f0.length d403002, .slice B406002 t406001.1.f2.length d406002, .slice B406003 t406001.1.f3.length d406003, .slice B406004 t406001.1.f4.length d406004, g21) _ (HS.arr [some 0, some 1, some 2, some 3, some 4, some 5, some 6, some 7, some 8, some 9, some 10, some 11, some 12, some 13, some 14, some 15, some 16, some 17, some 18, some 19, some 20, some 21, some 22, some 23, some 24, some 25, some 26, some 27, some 29, some 30, some 31, some 28] (by decide)))
                               simp only [putAll, Act.put, List.setIfInBounds_toArray, List.set_cons_zero, List.set_cons_succ, i64_w, i32_w]
                               (try rfl)
                           · refine if_wp (by rfl) ?_; refine wp_box HS (by first | (go_simp; done) | (go_simp; rfl)) rfl ?_; clear HS; (try clear F); intro g21 w21 HS
                             (try simp only [hpn, hpm] at HS)
                             have F := HS.boxes; simp only [boxFacts, and_true] at F
                             refine hK.out _ _ ⟨_, HS⟩ (fun HH => ?_)
                             clear hK K
                             refine norm_ (a' := ?_) ?_ ?_
                             rotate_left
                             · show Act.put _ (some 21) _ = _; simp only [Act.put, List.setIfInBounds_toArray, List.set_cons_zero, List.set_cons_succ, i64_w, i32_w]; rfl
                             refine dr_one 3 HT rfl (by kernel_rfl) (by decide) (fun K hK => ?_)
                             refine goes_ Try.func32 (by kernel_rfl) rfl #[.agg #[.slice Ap3 a1.f0.length cp3, .int .i64 a1.f1, .int .i64 a1.f2, .int .i64 a1.f3, .int .i64 a1.f4, .bool a1.f5]] (by rfl) rfl rfl (by simp only [List.map_toArray, List.map_cons, List.map_nil]; rfl) ?_; refine (laws_toAsk.calls ht403001.out (HS.ro gp3) lp3).mono ?_; rintro _ wt403001 ⟨v403002, rfl, HQ⟩; refine ⟨_, rfl, ?_⟩; replace HS := HS.call HQ; clear HQ; (try clear F); obtain ⟨B403002, d403002, rfl, m403002⟩ := HS.form 28 rfl
                             (try simp only [hpn, hpm] at HS)
                             have F := HS.boxes; simp only [boxFacts, and_true] at F
                             refine hK.out _ _ ⟨_, HS⟩ (fun HH => ?_)
                             clear hK K
                             refine norm_ (a' := ?_) ?_ ?_
                             rotate_left
                             · show Act.put _ (some 121) _ = _; simp only [Act.put, List.setIfInBounds_toArray, List.set_cons_zero, List.set_cons_succ, i64_w, i32_w]; rfl
                             refine dr_one 6 HT rfl (by kernel_rfl) (by decide) (fun K hK => ?_)
                             refine goes_ Try.func33 (by kernel_rfl) rfl #[.agg #[.string t401001.f0, .int .i64 t401001.f1, .slice B401002 t401001.f2.length d401002, .slice B401003 t401001.f3.length d401003, .slice B401004 t401001.f4.length d401004], .agg #[.slice B403002 t403001.f0.length d403002, .int .i64 t403001.f1, .int .i64 t403001.f2, .int .i64 t403001.f3, .int .i64 t403001.f4, .bool t403001.f5], .int .i64 a2, .int .i64 a3] (by rfl) rfl rfl (by simp only [List.map_toArray, List.map_cons, List.map_nil]; rfl) ?_; refine (impl_AskNow.calls ht406001.out (HS.rd 24 rfl) m401002 (HS.rd 25 rfl) m401003 (HS.rd 26 rfl) m401004 (HS.rd 28 rfl) m403002).mono ?_; rintro _ wt406001 ⟨v406002, v406003, v406004, rfl, HQ⟩; refine ⟨_, rfl, ?_⟩; replace HS := HS.call HQ; clear HQ; (try clear F); obtain ⟨B406002, d406002, rfl, m406002⟩ := HS.form 29 rfl; obtain ⟨B406003, d406003, rfl, m406003⟩ := HS.form 30 rfl; obtain ⟨B406004, d406004, rfl, m406004⟩ := HS.form 31 rfl
                             (try simp only [hpn, hpm] at HS)
                             have F := HS.boxes; simp only [boxFacts, and_true] at F
                             refine hK.out _ _ ⟨_, HS⟩ (fun HH => ?_)
                             clear hK K
                             refine norm_ (a' := ?_) ?_ ?_
                             rotate_left
                             · show Act.put _ (some 124) _ = _; simp only [Act.put, List.setIfInBounds_toArray, List.set_cons_zero, List.set_cons_succ, i64_w, i32_w]; rfl
                             refine drq_of [(7, some 117), (8, some 125), (9, some 126), (10, some 127)] ?_
                             repeat (first | (refine drq_pure HT (v := ?_) (a' := ?_) rfl rfl (by kernel_rfl) (fun _ _ _ h => h) (.inl ⟨by rfl, ?_⟩) ?_ ?_; rotate_left; (intro w'; go_simp; with_reducible rfl); rotate_left; (simp only [Act.put, List.setIfInBounds_toArray, List.set_cons_zero, List.set_cons_succ, i64_w, i32_w]; rfl)))
                             refine drq_end ?_
                             refine dr_last 12 HT rfl (by kernel_rfl) (by decide) (fun K hK => ?_)
                             refine if_wp (by rfl) ?_; refine wp_store 27 0 HS (seg := [.string t406001.1.f0, .int .i64 t406001.1.f1, .slice B406002 t406001.1.f2.length d406002, .slice B406003 t406001.1.f3.length d406003, .slice B406004 t406001.1.f4.length d406004]) rfl rfl rfl rfl rfl rfl (by kernel_rfl) (by simp [wrt]) (by simp [Value.oneCell']) ?_; clear HS; (try clear F); intro w412001 HS
                             (try simp only [hpn, hpm] at HS)
                             have F := HS.boxes; simp only [boxFacts, and_true] at F
                             refine hK.out _ _ ?_
                             clear hK K
                             refine drq_of [(13, some 22), (14, some 23)] ?_
                             repeat (first | (refine drq_pure HT (v := ?_) (a' := ?_) rfl rfl (by kernel_rfl) (fun _ _ _ h => h) (.inl ⟨by rfl, ?_⟩) ?_ ?_; rotate_left; (intro w'; go_simp; with_reducible rfl); rotate_left; (simp only [Act.put, List.setIfInBounds_toArray, List.set_cons_zero, List.set_cons_succ, i64_w, i32_w]; rfl)))
                             refine drq_end ?_
                             refine norm_ ?_ (hJ (.slice B401002 t401001.f2.length d401002, .slice B401003 t401001.f3.length d401003, .slice B401004 t401001.f4.length d401004, .slice B403002 t403001.f0.length d403002, .slice B406002 t406001.1.f2.length d406002, .slice B406003 t406001.1.f3.length d406003, .slice B406004 t406001.1.f4.length d406004, g21) _ (HS.arr [some 0, some 1, some 2, some 3, some 4, some 5, some 6, some 7, some 8, some 9, some 10, some 11, some 12, some 13, some 14, some 15, some 16, some 17, some 18, some 19, some 20, some 21, some 22, some 23, some 24, some 25, some 26, some 28, some 29, some 30, some 31, some 27] (by decide)))
                             simp only [putAll, Act.put, List.setIfInBounds_toArray, List.set_cons_zero, List.set_cons_succ, i64_w, i32_w]
                             (try rfl)
                         · refine if_wp (by rfl) ?_; refine wp_box HS (by first | (go_simp; done) | (go_simp; rfl)) rfl ?_; clear HS; (try clear F); intro g21 w21 HS
                           (try simp only [hpn, hpm] at HS)
                           have F := HS.boxes; simp only [boxFacts, and_true] at F
                           refine hK.out _ _ ⟨_, HS⟩ (fun HH => ?_)
                           clear hK K
                           refine norm_ (a' := ?_) ?_ ?_
                           rotate_left
                           · show Act.put _ (some 21) _ = _; simp only [Act.put, List.setIfInBounds_toArray, List.set_cons_zero, List.set_cons_succ, i64_w, i32_w]; rfl
                           refine dr_one 1 HT rfl (by kernel_rfl) (by decide) (fun K hK => ?_)
                           refine goes_ Try.func9 (by kernel_rfl) rfl #[.agg #[.string a0.f0, .int .i64 a0.f1, .slice Ap0 a0.f2.length cp0, .slice Ap1 a0.f3.length cp1, .slice Ap2 a0.f4.length cp2]] (by rfl) rfl rfl (by simp only [List.map_toArray, List.map_cons, List.map_nil]; rfl) ?_; refine (laws_toClient.calls ht401001.out (HS.ro gp0) lp0 (HS.ro gp1) lp1 (HS.ro gp2) lp2).mono ?_; rintro _ wt401001 ⟨v401002, v401003, v401004, rfl, HQ⟩; refine ⟨_, rfl, ?_⟩; replace HS := HS.call HQ; clear HQ; (try clear F); obtain ⟨B401002, d401002, rfl, m401002⟩ := HS.form 25 rfl; obtain ⟨B401003, d401003, rfl, m401003⟩ := HS.form 26 rfl; obtain ⟨B401004, d401004, rfl, m401004⟩ := HS.form 27 rfl
                           (try simp only [hpn, hpm] at HS)
                           have F := HS.boxes; simp only [boxFacts, and_true] at F
                           refine hK.out _ _ ⟨_, HS⟩ (fun HH => ?_)
                           clear hK K
                           refine norm_ (a' := ?_) ?_ ?_
                           rotate_left
                           · show Act.put _ (some 119) _ = _; simp only [Act.put, List.setIfInBounds_toArray, List.set_cons_zero, List.set_cons_succ, i64_w, i32_w]; rfl
                           refine dr_one 3 HT rfl (by kernel_rfl) (by decide) (fun K hK => ?_)
                           refine goes_ Try.func32 (by kernel_rfl) rfl #[.agg #[.slice Ap3 a1.f0.length cp3, .int .i64 a1.f1, .int .i64 a1.f2, .int .i64 a1.f3, .int .i64 a1.f4, .bool a1.f5]] (by rfl) rfl rfl (by simp only [List.map_toArray, List.map_cons, List.map_nil]; rfl) ?_; refine (laws_toAsk.calls ht403001.out (HS.ro gp3) lp3).mono ?_; rintro _ wt403001 ⟨v403002, rfl, HQ⟩; refine ⟨_, rfl, ?_⟩; replace HS := HS.call HQ; clear HQ; (try clear F); obtain ⟨B403002, d403002, rfl, m403002⟩ := HS.form 28 rfl
                           (try simp only [hpn, hpm] at HS)
                           have F := HS.boxes; simp only [boxFacts, and_true] at F
                           refine hK.out _ _ ⟨_, HS⟩ (fun HH => ?_)
                           clear hK K
                           refine norm_ (a' := ?_) ?_ ?_
                           rotate_left
                           · show Act.put _ (some 121) _ = _; simp only [Act.put, List.setIfInBounds_toArray, List.set_cons_zero, List.set_cons_succ, i64_w, i32_w]; rfl
                           refine dr_one 6 HT rfl (by kernel_rfl) (by decide) (fun K hK => ?_)
                           refine goes_ Try.func33 (by kernel_rfl) rfl #[.agg #[.string t401001.f0, .int .i64 t401001.f1, .slice B401002 t401001.f2.length d401002, .slice B401003 t401001.f3.length d401003, .slice B401004 t401001.f4.length d401004], .agg #[.slice B403002 t403001.f0.length d403002, .int .i64 t403001.f1, .int .i64 t403001.f2, .int .i64 t403001.f3, .int .i64 t403001.f4, .bool t403001.f5], .int .i64 a2, .int .i64 a3] (by rfl) rfl rfl (by simp only [List.map_toArray, List.map_cons, List.map_nil]; rfl) ?_; refine (impl_AskNow.calls ht406001.out (HS.rd 25 rfl) m401002 (HS.rd 26 rfl) m401003 (HS.rd 27 rfl) m401004 (HS.rd 28 rfl) m403002).mono ?_; rintro _ wt406001 ⟨v406002, v406003, v406004, rfl, HQ⟩; refine ⟨_, rfl, ?_⟩; replace HS := HS.call HQ; clear HQ; (try clear F); obtain ⟨B406002, d406002, rfl, m406002⟩ := HS.form 29 rfl; obtain ⟨B406003, d406003, rfl, m406003⟩ := HS.form 30 rfl; obtain ⟨B406004, d406004, rfl, m406004⟩ := HS.form 31 rfl
                           (try simp only [hpn, hpm] at HS)
                           have F := HS.boxes; simp only [boxFacts, and_true] at F
                           refine hK.out _ _ ⟨_, HS⟩ (fun HH => ?_)
                           clear hK K
                           refine norm_ (a' := ?_) ?_ ?_
                           rotate_left
                           · show Act.put _ (some 124) _ = _; simp only [Act.put, List.setIfInBounds_toArray, List.set_cons_zero, List.set_cons_succ, i64_w, i32_w]; rfl
                           refine drq_of [(7, some 117), (8, some 125), (9, some 126), (10, some 127)] ?_
                           repeat (first | (refine drq_pure HT (v := ?_) (a' := ?_) rfl rfl (by kernel_rfl) (fun _ _ _ h => h) (.inl ⟨by rfl, ?_⟩) ?_ ?_; rotate_left; (intro w'; go_simp; with_reducible rfl); rotate_left; (simp only [Act.put, List.setIfInBounds_toArray, List.set_cons_zero, List.set_cons_succ, i64_w, i32_w]; rfl)))
                           refine drq_end ?_
                           refine dr_last 12 HT rfl (by kernel_rfl) (by decide) (fun K hK => ?_)
                           refine if_wp (by rfl) ?_; refine wp_store 24 0 HS (seg := [.string t406001.1.f0, .int .i64 t406001.1.f1, .slice B406002 t406001.1.f2.length d406002, .slice B406003 t406001.1.f3.length d406003, .slice B406004 t406001.1.f4.length d406004]) rfl rfl rfl rfl rfl rfl (by kernel_rfl) (by simp [wrt]) (by simp [Value.oneCell']) ?_; clear HS; (try clear F); intro w412001 HS
                           (try simp only [hpn, hpm] at HS)
                           have F := HS.boxes; simp only [boxFacts, and_true] at F
                           refine hK.out _ _ ?_
                           clear hK K
                           refine drq_of [(13, some 22), (14, some 23)] ?_
                           repeat (first | (refine drq_pure HT (v := ?_) (a' := ?_) rfl rfl (by kernel_rfl) (fun _ _ _ h => h) (.inl ⟨by rfl, ?_⟩) ?_ ?_; rotate_left; (intro w'; go_simp; with_reducible rfl); rotate_left; (simp only [Act.put, List.setIfInBounds_toArray, List.set_cons_zero, List.set_cons_succ, i64_w, i32_w]; rfl)))
                           refine drq_end ?_
                           refine norm_ ?_ (hJ (.slice B401002 t401001.f2.length d401002, .slice B401003 t401001.f3.length d401003, .slice B401004 t401001.f4.length d401004, .slice B403002 t403001.f0.length d403002, .slice B406002 t406001.1.f2.length d406002, .slice B406003 t406001.1.f3.length d406003, .slice B406004 t406001.1.f4.length d406004, g21) _ (HS.arr [some 0, some 1, some 2, some 3, some 4, some 5, some 6, some 7, some 8, some 9, some 10, some 11, some 12, some 13, some 14, some 15, some 16, some 17, some 18, some 19, some 20, some 21, some 22, some 23, some 25, some 26, some 27, some 28, some 29, some 30, some 31, some 24] (by decide)))
                           simp only [putAll, Act.put, List.setIfInBounds_toArray, List.set_cons_zero, List.set_cons_succ, i64_w, i32_w]
                           (try rfl)
                       rintro ⟨v401002, v401003, v401004, v403002, v406002, v406003, v406004, g21⟩ w499999 HS
                       obtain ⟨B401002, d401002, rfl, m401002⟩ := HS.form 24 rfl
                       obtain ⟨B401003, d401003, rfl, m401003⟩ := HS.form 25 rfl
                       obtain ⟨B401004, d401004, rfl, m401004⟩ := HS.form 26 rfl
                       obtain ⟨B403002, d403002, rfl, m403002⟩ := HS.form 27 rfl
                       obtain ⟨B406002, d406002, rfl, m406002⟩ := HS.form 28 rfl
                       obtain ⟨B406003, d406003, rfl, m406003⟩ := HS.form 29 rfl
                       obtain ⟨B406004, d406004, rfl, m406004⟩ := HS.form 30 rfl
                       have F := HS.boxes; simp only [boxFacts, and_true] at F
                       refine norm_ (a' := ?_) ?_ ?_
                       rotate_left
                       · simp only [putAll, Act.put, List.setIfInBounds_toArray, List.set_cons_zero, List.set_cons_succ, i64_w, i32_w]; rfl
                       refine done_ (done_of HT.out (by kernel_rfl)) ?_
                       replace H := zbind H; obtain ⟨t69, ht69, H⟩ := H
                       by_cases c71 : t69 = true
                       · replace H := zpos c71 H
                         subst c71
                         by_cases c72 : t406001.2.1.toList = t106001.2.1.toList
                         · replace H := zpos c72 H
                           have c72a := beq_iff_eq.mpr c72
                           have c72b := bne_eq_false_iff_eq.mpr c72
                           clear c72
                           go_upto_if 141 with (first | ((with_reducible refine gate_dst (N := 130) rfl ?_); refine ev_call rfl Try.func11 (by kernel_rfl) rfl #[.agg #[.string t406001.1.f0, .int .i64 t406001.1.f1, .slice B406002 t406001.1.f2.length d406002, .slice B406003 t406001.1.f3.length d406003, .slice B406004 t406001.1.f4.length d406004], .agg #[.string t106001.1.f0, .int .i64 t106001.1.f1, .slice B106002 t106001.1.f2.length d106002, .slice B106003 t106001.1.f3.length d106003, .slice B106004 t106001.1.f4.length d106004]] rfl (by simp only [List.map_toArray, List.map_cons, List.map_nil]; rfl) ?_; refine (laws_eqClient.calls ht69.out (HS.rd 28 rfl) m406002 (HS.rd 29 rfl) m406003 (HS.rd 30 rfl) m406004 (HS.rd 6 rfl) m106002 (HS.rd 7 rfl) m106003 (HS.rd 8 rfl) m106004).mono ?_; rintro _ wt69 ⟨rfl, HQ⟩; refine ⟨_, rfl, ?_⟩; replace HS := HS.call HQ; clear HQ; (try clear F); (try simp only [hpn, hpm] at HS); have F := HS.boxes; simp only [boxFacts, and_true] at F))
                           by_cases c73 : t406001.2.2 = t106001.2.2
                           · replace H := zpos c73 H
                             have c73a := beq_iff_eq.mpr c73
                             have c73b := bne_eq_false_iff_eq.mpr c73
                             clear c73
                             (try simp only [c73a, c73b, dcn])
                             replace H := zbind H; obtain ⟨t74, ht74, H⟩ := H
                             go_upto_if 146 with (first | ((with_reducible refine gate_dst (N := 144) rfl ?_); refine ev_call rfl Try.func13 (by kernel_rfl) rfl #[.agg #[.string t30.1.f0, .int .i64 t30.1.f1, .slice B31 t30.1.f2.length d31, .slice B32 t30.1.f3.length d32, .slice B33 t30.1.f4.length d33], .int .i64 1] rfl (by simp only [List.map_toArray, List.map_cons, List.map_nil]; rfl) ?_; refine (laws_heldClient.calls ht74.out (HS.rd 16 rfl) m31 (HS.rd 17 rfl) m32 (HS.rd 18 rfl) m33).mono ?_; rintro _ wt74 ⟨rfl, HQ⟩; refine ⟨_, rfl, ?_⟩; replace HS := HS.call HQ; clear HQ; (try clear F); (try simp only [hpn, hpm] at HS); have F := HS.boxes; simp only [boxFacts, and_true] at F))
                             by_cases c76 : t74 < 0
                             · replace H := zpos c76 H
                               replace c76 := eq_true c76
                               (try simp only [c76, dcn])
                               obtain rfl := zsome H
                               go_wp2
                               go_ret
                               exact ⟨rfl, HS.pick [] (by decide) (by rfl)⟩
                             · replace H := zneg c76 H
                               replace c76 := eq_false c76
                               (try simp only [c76, dcn])
                               by_cases c77 : t74 = t60.1
                               · replace H := zpos c77 H
                                 have c77a := beq_iff_eq.mpr c77
                                 have c77b := bne_eq_false_iff_eq.mpr c77
                                 clear c77
                                 (try simp only [c77a, c77b, dcn])
                                 obtain rfl := zsome H
                                 go_wp2
                                 go_ret
                                 exact ⟨rfl, HS.pick [] (by decide) (by rfl)⟩
                               · replace H := zneg c77 H
                                 have c77a := beq_eq_false_iff_ne.mpr c77
                                 have c77b := bne_iff_ne.mpr c77
                                 clear c77
                                 (try simp only [c77a, c77b, dcn])
                                 obtain rfl := zsome H
                                 go_wp2
                                 go_ret
                                 exact ⟨rfl, HS.pick [] (by decide) (by rfl)⟩
                           · replace H := zneg c73 H
                             have c73a := beq_eq_false_iff_ne.mpr c73
                             have c73b := bne_iff_ne.mpr c73
                             clear c73
                             (try simp only [c73a, c73b, dcn])
                             obtain rfl := zsome H
                             go_wp2
                             go_ret
                             exact ⟨rfl, HS.pick [] (by decide) (by rfl)⟩
                         · replace H := zneg c72 H
                           have c72a := beq_eq_false_iff_ne.mpr c72
                           have c72b := bne_iff_ne.mpr c72
                           clear c72
                           obtain rfl := zsome H
                           go_wp2_with (first | ((with_reducible refine gate_dst (N := 130) rfl ?_); refine ev_call rfl Try.func11 (by kernel_rfl) rfl #[.agg #[.string t406001.1.f0, .int .i64 t406001.1.f1, .slice B406002 t406001.1.f2.length d406002, .slice B406003 t406001.1.f3.length d406003, .slice B406004 t406001.1.f4.length d406004], .agg #[.string t106001.1.f0, .int .i64 t106001.1.f1, .slice B106002 t106001.1.f2.length d106002, .slice B106003 t106001.1.f3.length d106003, .slice B106004 t106001.1.f4.length d106004]] rfl (by simp only [List.map_toArray, List.map_cons, List.map_nil]; rfl) ?_; refine (laws_eqClient.calls ht69.out (HS.rd 28 rfl) m406002 (HS.rd 29 rfl) m406003 (HS.rd 30 rfl) m406004 (HS.rd 6 rfl) m106002 (HS.rd 7 rfl) m106003 (HS.rd 8 rfl) m106004).mono ?_; rintro _ wt69 ⟨rfl, HQ⟩; refine ⟨_, rfl, ?_⟩; replace HS := HS.call HQ; clear HQ; (try clear F); (try simp only [hpn, hpm] at HS); have F := HS.boxes; simp only [boxFacts, and_true] at F))
                           go_ret
                           exact ⟨rfl, HS.pick [] (by decide) (by rfl)⟩
                       · replace H := zneg c71 H
                         replace c71 := eq_false_of_ne_true c71
                         subst c71
                         obtain rfl := zsome H
                         go_wp2_with (first | ((with_reducible refine gate_dst (N := 130) rfl ?_); refine ev_call rfl Try.func11 (by kernel_rfl) rfl #[.agg #[.string t406001.1.f0, .int .i64 t406001.1.f1, .slice B406002 t406001.1.f2.length d406002, .slice B406003 t406001.1.f3.length d406003, .slice B406004 t406001.1.f4.length d406004], .agg #[.string t106001.1.f0, .int .i64 t106001.1.f1, .slice B106002 t106001.1.f2.length d106002, .slice B106003 t106001.1.f3.length d106003, .slice B106004 t106001.1.f4.length d106004]] rfl (by simp only [List.map_toArray, List.map_cons, List.map_nil]; rfl) ?_; refine (laws_eqClient.calls ht69.out (HS.rd 28 rfl) m406002 (HS.rd 29 rfl) m406003 (HS.rd 30 rfl) m406004 (HS.rd 6 rfl) m106002 (HS.rd 7 rfl) m106003 (HS.rd 8 rfl) m106004).mono ?_; rintro _ wt69 ⟨rfl, HQ⟩; refine ⟨_, rfl, ?_⟩; replace HS := HS.call HQ; clear HQ; (try clear F); (try simp only [hpn, hpm] at HS); have F := HS.boxes; simp only [boxFacts, and_true] at F))
                         go_ret
                         exact ⟨rfl, HS.pick [] (by decide) (by rfl)⟩
                     · replace H := zneg c65 H
                       have c65a := beq_eq_false_iff_ne.mpr c65
                       have c65b := bne_iff_ne.mpr c65
                       clear c65
                       (try simp only [c65a, c65b, dcn])
                       obtain rfl := zsome H
                       go_wp2
                       go_ret
                       exact ⟨rfl, HS.pick [] (by decide) (by rfl)⟩
                 · replace H := zneg c59 H
                   replace c59 := eq_false_of_ne_true c59
                   subst c59
                   obtain rfl := zsome H
                   go_wp2_with (first | ((with_reducible refine gate_dst (N := 84) rfl ?_); refine HS.lend [10, 11, 12] (by decide) [.own (Zd.slice 89 q89) t14.f2 [.slice B15 t14.f2.length d15], .own (Zd.slice 150 q150) t14.f3 [.slice B16 t14.f3.length d16], .own (Zd.slice 3 (Zd.int .i64)) t14.f4 [.slice B17 t14.f4.length d17]] rfl (fun A' HL HD HA HB => ?_); refine ev_call rfl Try.func12 (by kernel_rfl) rfl #[.agg #[.string t14.f0, .int .i64 t14.f1, .slice B15 t14.f2.length d15, .slice B16 t14.f3.length d16, .slice B17 t14.f4.length d17], .int .i64 1] rfl (by simp only [List.map_toArray, List.map_cons, List.map_nil]; rfl) ?_; refine (laws_markClient.calls ht52.out HA).mono ?_; rintro _ wt52 ⟨rfl, HQ⟩; refine ⟨_, rfl, ?_⟩; replace HS := HB _ _ HQ (Nat.le_of_ble_eq_true rfl); clear HQ HA HB HL HD; (try simp only [hpn, hpm] at HS); (try clear F); (try simp only [hpn, hpm] at HS); have F := HS.boxes; simp only [boxFacts, and_true] at F) | ((with_reducible refine gate_dst (N := 87) rfl ?_); refine HS.lend [14] (by decide) [.own (Zd.slice 9 Zd.string) t23.f0 [.slice B24 t23.f0.length d24]] rfl (fun A' HL HD HA HB => ?_); refine ev_call rfl Try.func35 (by kernel_rfl) rfl #[.agg #[.slice B24 t23.f0.length d24, .int .i64 t23.f1, .int .i64 t23.f2, .int .i64 t23.f3, .int .i64 t23.f4, .bool t23.f5], .int .i64 t52.1] rfl (by simp only [List.map_toArray, List.map_cons, List.map_nil]; rfl) ?_; refine (laws_markAsk.calls ht54.out HA).mono ?_; rintro _ wt54 ⟨rfl, HQ⟩; refine ⟨_, rfl, ?_⟩; replace HS := HB _ _ HQ (Nat.le_of_ble_eq_true rfl); clear HQ HA HB HL HD; (try simp only [hpn, hpm] at HS); (try clear F); (try simp only [hpn, hpm] at HS); have F := HS.boxes; simp only [boxFacts, and_true] at F) | ((with_reducible refine gate_dst (N := 93) rfl ?_); refine gate_guard (by rfl) ?_; refine ev_call rfl Try.func11 (by kernel_rfl) rfl #[.agg #[.string t30.1.f0, .int .i64 t30.1.f1, .slice B31 t30.1.f2.length d31, .slice B32 t30.1.f3.length d32, .slice B33 t30.1.f4.length d33], .agg #[.string t106001.1.f0, .int .i64 t106001.1.f1, .slice B106002 t106001.1.f2.length d106002, .slice B106003 t106001.1.f3.length d106003, .slice B106004 t106001.1.f4.length d106004]] rfl (by simp only [List.map_toArray, List.map_cons, List.map_nil]; rfl) ?_; refine (laws_eqClient.calls ht57.out (HS.rd 16 rfl) m31 (HS.rd 17 rfl) m32 (HS.rd 18 rfl) m33 (HS.rd 6 rfl) m106002 (HS.rd 7 rfl) m106003 (HS.rd 8 rfl) m106004).mono ?_; rintro _ wt57 ⟨rfl, HQ⟩; refine ⟨_, rfl, ?_⟩; replace HS := HS.call HQ; clear HQ; (try clear F); (try simp only [hpn, hpm] at HS); have F := HS.boxes; simp only [boxFacts, and_true] at F))
                   go_ret
                   exact ⟨rfl, HS.pick [] (by decide) (by rfl)⟩
             · replace H := zneg c51 H
               replace c51 := eq_false_of_ne_true c51
               subst c51
               (try simp only [dcn, if_true, Bool.false_eq_true, if_false])
               obtain rfl := zsome H
               go_wp2
               go_ret
               exact ⟨rfl, HS.pick [] (by decide) (by rfl)⟩
           · replace H := zneg c47 H
             replace c47 := eq_false_of_ne_true c47
             subst c47
             (try simp only [dcn, if_true, Bool.false_eq_true, if_false])
             obtain rfl := zsome H
             go_wp2
             go_ret
             exact ⟨rfl, HS.pick [] (by decide) (by rfl)⟩
         · replace H := zneg c43 H
           have c43a := beq_eq_false_iff_ne.mpr c43
           have c43b := bne_iff_ne.mpr c43
           clear c43
           (try simp only [c43a, c43b, dcn])
           obtain rfl := zsome H
           go_wp2
           go_ret
           exact ⟨rfl, HS.pick [] (by decide) (by rfl)⟩
       · replace H := zneg c42 H
         have c42a := beq_eq_false_iff_ne.mpr c42
         have c42b := bne_iff_ne.mpr c42
         clear c42
         obtain rfl := zsome H
         go_wp2_with (first | ((with_reducible refine gate_dst (N := 46) rfl ?_); refine ev_call rfl Try.func9 (by kernel_rfl) rfl #[.agg #[.string a0.f0, .int .i64 a0.f1, .slice Ap0 a0.f2.length cp0, .slice Ap1 a0.f3.length cp1, .slice Ap2 a0.f4.length cp2]] rfl (by simp only [List.map_toArray, List.map_cons, List.map_nil]; rfl) ?_; refine (laws_toClient.calls ht14.out (HS.ro gp0) lp0 (HS.ro gp1) lp1 (HS.ro gp2) lp2).mono ?_; rintro _ wt14 ⟨v15, v16, v17, rfl, HQ⟩; refine ⟨_, rfl, ?_⟩; replace HS := HS.call HQ; clear HQ; (try clear F); obtain ⟨B15, d15, rfl, m15⟩ := HS.form 10 rfl; obtain ⟨B16, d16, rfl, m16⟩ := HS.form 11 rfl; obtain ⟨B17, d17, rfl, m17⟩ := HS.form 12 rfl; (try simp only [hpn, hpm] at HS); have F := HS.boxes; simp only [boxFacts, and_true] at F) | ((with_reducible refine gate_dst (N := 13) rfl ?_); refine ev_box rfl HS (by first | (go_simp; done) | (go_simp; rfl)) rfl ?_; clear HS; (try clear F); intro g13 w13 HS; (try simp only [hpn, hpm] at HS); have F := HS.boxes; simp only [boxFacts, and_true] at F) | ((with_reducible refine gate_store (p := 13) rfl ?_); refine ev_store rfl 13 0 HS (seg := [.string t14.f0, .int .i64 t14.f1, .slice B15 t14.f2.length d15, .slice B16 t14.f3.length d16, .slice B17 t14.f4.length d17]) rfl rfl rfl rfl rfl rfl (by kernel_rfl) (by simp [wrt]) (by simp [Value.oneCell']) ?_; clear HS; (try clear F); intro w21 HS; (try simp only [hpn, hpm] at HS); have F := HS.boxes; simp only [boxFacts, and_true] at F) | ((with_reducible refine gate_dst (N := 48) rfl ?_); refine ev_call rfl Try.func32 (by kernel_rfl) rfl #[.agg #[.slice Ap3 a1.f0.length cp3, .int .i64 a1.f1, .int .i64 a1.f2, .int .i64 a1.f3, .int .i64 a1.f4, .bool a1.f5]] rfl (by simp only [List.map_toArray, List.map_cons, List.map_nil]; rfl) ?_; refine (laws_toAsk.calls ht23.out (HS.ro gp3) lp3).mono ?_; rintro _ wt23 ⟨v24, rfl, HQ⟩; refine ⟨_, rfl, ?_⟩; replace HS := HS.call HQ; clear HQ; (try clear F); obtain ⟨B24, d24, rfl, m24⟩ := HS.form 14 rfl; (try simp only [hpn, hpm] at HS); have F := HS.boxes; simp only [boxFacts, and_true] at F) | ((with_reducible refine gate_dst (N := 14) rfl ?_); refine ev_box rfl HS (by first | (go_simp; done) | (go_simp; rfl)) rfl ?_; clear HS; (try clear F); intro g14 w14 HS; (try simp only [hpn, hpm] at HS); have F := HS.boxes; simp only [boxFacts, and_true] at F) | ((with_reducible refine gate_store (p := 14) rfl ?_); refine ev_store rfl 15 0 HS (seg := [.slice B24 t23.f0.length d24, .int .i64 t23.f1, .int .i64 t23.f2, .int .i64 t23.f3, .int .i64 t23.f4, .bool t23.f5]) rfl rfl rfl rfl rfl rfl (by kernel_rfl) (by simp [wrt]) (by simp [Value.oneCell']) ?_; clear HS; (try clear F); intro w28 HS; (try simp only [hpn, hpm] at HS); have F := HS.boxes; simp only [boxFacts, and_true] at F) | ((with_reducible refine gate_dst (N := 54) rfl ?_); refine ev_call rfl Try.func33 (by kernel_rfl) rfl #[.agg #[.string t14.f0, .int .i64 t14.f1, .slice B15 t14.f2.length d15, .slice B16 t14.f3.length d16, .slice B17 t14.f4.length d17], .agg #[.slice B24 t23.f0.length d24, .int .i64 t23.f1, .int .i64 t23.f2, .int .i64 t23.f3, .int .i64 t23.f4, .bool t23.f5], .int .i64 a2, .int .i64 a3] rfl (by simp only [List.map_toArray, List.map_cons, List.map_nil]; rfl) ?_; refine (impl_AskNow.calls ht30.out (HS.rd 10 rfl) m15 (HS.rd 11 rfl) m16 (HS.rd 12 rfl) m17 (HS.rd 14 rfl) m24).mono ?_; rintro _ wt30 ⟨v31, v32, v33, rfl, HQ⟩; refine ⟨_, rfl, ?_⟩; replace HS := HS.call HQ; clear HQ; (try clear F); obtain ⟨B31, d31, rfl, m31⟩ := HS.form 16 rfl; obtain ⟨B32, d32, rfl, m32⟩ := HS.form 17 rfl; obtain ⟨B33, d33, rfl, m33⟩ := HS.form 18 rfl; (try simp only [hpn, hpm] at HS); have F := HS.boxes; simp only [boxFacts, and_true] at F) | ((with_reducible refine gate_dst (N := 15) rfl ?_); refine ev_box rfl HS (by first | (go_simp; done) | (go_simp; rfl)) rfl ?_; clear HS; (try clear F); intro g15 w15 HS; (try simp only [hpn, hpm] at HS); have F := HS.boxes; simp only [boxFacts, and_true] at F) | ((with_reducible refine gate_store (p := 15) rfl ?_); refine ev_store rfl 19 0 HS (seg := [.string t30.1.f0, .int .i64 t30.1.f1, .slice B31 t30.1.f2.length d31, .slice B32 t30.1.f3.length d32, .slice B33 t30.1.f4.length d33]) rfl rfl rfl rfl rfl rfl (by kernel_rfl) (by simp [wrt]) (by simp [Value.oneCell']) ?_; clear HS; (try clear F); intro w37 HS; (try simp only [hpn, hpm] at HS); have F := HS.boxes; simp only [boxFacts, and_true] at F) | ((with_reducible refine gate_dst (N := 60) rfl ?_); refine ev_call rfl Try.func11 (by kernel_rfl) rfl #[.agg #[.string t30.1.f0, .int .i64 t30.1.f1, .slice B31 t30.1.f2.length d31, .slice B32 t30.1.f3.length d32, .slice B33 t30.1.f4.length d33], .agg #[.string t106001.1.f0, .int .i64 t106001.1.f1, .slice B106002 t106001.1.f2.length d106002, .slice B106003 t106001.1.f3.length d106003, .slice B106004 t106001.1.f4.length d106004]] rfl (by simp only [List.map_toArray, List.map_cons, List.map_nil]; rfl) ?_; refine (laws_eqClient.calls ht39.out (HS.rd 16 rfl) m31 (HS.rd 17 rfl) m32 (HS.rd 18 rfl) m33 (HS.rd 6 rfl) m106002 (HS.rd 7 rfl) m106003 (HS.rd 8 rfl) m106004).mono ?_; rintro _ wt39 ⟨rfl, HQ⟩; refine ⟨_, rfl, ?_⟩; replace HS := HS.call HQ; clear HQ; (try clear F); (try simp only [hpn, hpm] at HS); have F := HS.boxes; simp only [boxFacts, and_true] at F))
         go_ret
         exact ⟨rfl, HS.pick [] (by decide) (by rfl)⟩
     · replace H := zneg c41 H
       replace c41 := eq_false_of_ne_true c41
       subst c41
       obtain rfl := zsome H
       go_wp2_with (first | ((with_reducible refine gate_dst (N := 46) rfl ?_); refine ev_call rfl Try.func9 (by kernel_rfl) rfl #[.agg #[.string a0.f0, .int .i64 a0.f1, .slice Ap0 a0.f2.length cp0, .slice Ap1 a0.f3.length cp1, .slice Ap2 a0.f4.length cp2]] rfl (by simp only [List.map_toArray, List.map_cons, List.map_nil]; rfl) ?_; refine (laws_toClient.calls ht14.out (HS.ro gp0) lp0 (HS.ro gp1) lp1 (HS.ro gp2) lp2).mono ?_; rintro _ wt14 ⟨v15, v16, v17, rfl, HQ⟩; refine ⟨_, rfl, ?_⟩; replace HS := HS.call HQ; clear HQ; (try clear F); obtain ⟨B15, d15, rfl, m15⟩ := HS.form 10 rfl; obtain ⟨B16, d16, rfl, m16⟩ := HS.form 11 rfl; obtain ⟨B17, d17, rfl, m17⟩ := HS.form 12 rfl; (try simp only [hpn, hpm] at HS); have F := HS.boxes; simp only [boxFacts, and_true] at F) | ((with_reducible refine gate_dst (N := 13) rfl ?_); refine ev_box rfl HS (by first | (go_simp; done) | (go_simp; rfl)) rfl ?_; clear HS; (try clear F); intro g13 w13 HS; (try simp only [hpn, hpm] at HS); have F := HS.boxes; simp only [boxFacts, and_true] at F) | ((with_reducible refine gate_store (p := 13) rfl ?_); refine ev_store rfl 13 0 HS (seg := [.string t14.f0, .int .i64 t14.f1, .slice B15 t14.f2.length d15, .slice B16 t14.f3.length d16, .slice B17 t14.f4.length d17]) rfl rfl rfl rfl rfl rfl (by kernel_rfl) (by simp [wrt]) (by simp [Value.oneCell']) ?_; clear HS; (try clear F); intro w21 HS; (try simp only [hpn, hpm] at HS); have F := HS.boxes; simp only [boxFacts, and_true] at F) | ((with_reducible refine gate_dst (N := 48) rfl ?_); refine ev_call rfl Try.func32 (by kernel_rfl) rfl #[.agg #[.slice Ap3 a1.f0.length cp3, .int .i64 a1.f1, .int .i64 a1.f2, .int .i64 a1.f3, .int .i64 a1.f4, .bool a1.f5]] rfl (by simp only [List.map_toArray, List.map_cons, List.map_nil]; rfl) ?_; refine (laws_toAsk.calls ht23.out (HS.ro gp3) lp3).mono ?_; rintro _ wt23 ⟨v24, rfl, HQ⟩; refine ⟨_, rfl, ?_⟩; replace HS := HS.call HQ; clear HQ; (try clear F); obtain ⟨B24, d24, rfl, m24⟩ := HS.form 14 rfl; (try simp only [hpn, hpm] at HS); have F := HS.boxes; simp only [boxFacts, and_true] at F) | ((with_reducible refine gate_dst (N := 14) rfl ?_); refine ev_box rfl HS (by first | (go_simp; done) | (go_simp; rfl)) rfl ?_; clear HS; (try clear F); intro g14 w14 HS; (try simp only [hpn, hpm] at HS); have F := HS.boxes; simp only [boxFacts, and_true] at F) | ((with_reducible refine gate_store (p := 14) rfl ?_); refine ev_store rfl 15 0 HS (seg := [.slice B24 t23.f0.length d24, .int .i64 t23.f1, .int .i64 t23.f2, .int .i64 t23.f3, .int .i64 t23.f4, .bool t23.f5]) rfl rfl rfl rfl rfl rfl (by kernel_rfl) (by simp [wrt]) (by simp [Value.oneCell']) ?_; clear HS; (try clear F); intro w28 HS; (try simp only [hpn, hpm] at HS); have F := HS.boxes; simp only [boxFacts, and_true] at F) | ((with_reducible refine gate_dst (N := 54) rfl ?_); refine ev_call rfl Try.func33 (by kernel_rfl) rfl #[.agg #[.string t14.f0, .int .i64 t14.f1, .slice B15 t14.f2.length d15, .slice B16 t14.f3.length d16, .slice B17 t14.f4.length d17], .agg #[.slice B24 t23.f0.length d24, .int .i64 t23.f1, .int .i64 t23.f2, .int .i64 t23.f3, .int .i64 t23.f4, .bool t23.f5], .int .i64 a2, .int .i64 a3] rfl (by simp only [List.map_toArray, List.map_cons, List.map_nil]; rfl) ?_; refine (impl_AskNow.calls ht30.out (HS.rd 10 rfl) m15 (HS.rd 11 rfl) m16 (HS.rd 12 rfl) m17 (HS.rd 14 rfl) m24).mono ?_; rintro _ wt30 ⟨v31, v32, v33, rfl, HQ⟩; refine ⟨_, rfl, ?_⟩; replace HS := HS.call HQ; clear HQ; (try clear F); obtain ⟨B31, d31, rfl, m31⟩ := HS.form 16 rfl; obtain ⟨B32, d32, rfl, m32⟩ := HS.form 17 rfl; obtain ⟨B33, d33, rfl, m33⟩ := HS.form 18 rfl; (try simp only [hpn, hpm] at HS); have F := HS.boxes; simp only [boxFacts, and_true] at F) | ((with_reducible refine gate_dst (N := 15) rfl ?_); refine ev_box rfl HS (by first | (go_simp; done) | (go_simp; rfl)) rfl ?_; clear HS; (try clear F); intro g15 w15 HS; (try simp only [hpn, hpm] at HS); have F := HS.boxes; simp only [boxFacts, and_true] at F) | ((with_reducible refine gate_store (p := 15) rfl ?_); refine ev_store rfl 19 0 HS (seg := [.string t30.1.f0, .int .i64 t30.1.f1, .slice B31 t30.1.f2.length d31, .slice B32 t30.1.f3.length d32, .slice B33 t30.1.f4.length d33]) rfl rfl rfl rfl rfl rfl (by kernel_rfl) (by simp [wrt]) (by simp [Value.oneCell']) ?_; clear HS; (try clear F); intro w37 HS; (try simp only [hpn, hpm] at HS); have F := HS.boxes; simp only [boxFacts, and_true] at F) | ((with_reducible refine gate_dst (N := 60) rfl ?_); refine ev_call rfl Try.func11 (by kernel_rfl) rfl #[.agg #[.string t30.1.f0, .int .i64 t30.1.f1, .slice B31 t30.1.f2.length d31, .slice B32 t30.1.f3.length d32, .slice B33 t30.1.f4.length d33], .agg #[.string t106001.1.f0, .int .i64 t106001.1.f1, .slice B106002 t106001.1.f2.length d106002, .slice B106003 t106001.1.f3.length d106003, .slice B106004 t106001.1.f4.length d106004]] rfl (by simp only [List.map_toArray, List.map_cons, List.map_nil]; rfl) ?_; refine (laws_eqClient.calls ht39.out (HS.rd 16 rfl) m31 (HS.rd 17 rfl) m32 (HS.rd 18 rfl) m33 (HS.rd 6 rfl) m106002 (HS.rd 7 rfl) m106003 (HS.rd 8 rfl) m106004).mono ?_; rintro _ wt39 ⟨rfl, HQ⟩; refine ⟨_, rfl, ?_⟩; replace HS := HS.call HQ; clear HQ; (try clear F); (try simp only [hpn, hpm] at HS); have F := HS.boxes; simp only [boxFacts, and_true] at F))
       go_ret
       exact ⟨rfl, HS.pick [] (by decide) (by rfl)⟩
end Go.Proofs.Ytoaoncnbimcdgaa.F
