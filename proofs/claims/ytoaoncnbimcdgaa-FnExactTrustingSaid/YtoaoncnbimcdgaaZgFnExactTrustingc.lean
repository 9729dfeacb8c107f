/- Functions of the program and of the law, and that their calls do what is written here. -/
import Derived.Test.YtoaoncnbimcdgaaZgFnExactTrustingb
namespace Go.Proofs.Ytoaoncnbimcdgaa.F
open Go.RowKit Go.Proofs.YtoaoncnbimcdgaaW.PrintWords Go.Proofs.YtoaoncnbimcdgaaW.PrintLast Go.Proofs.YtoaoncnbimcdgaaW.PrintMore Go.Proofs.Ytoaoncnbimcdgaa.Z
attribute [local go_sem] max2_int min2_int max_two min_two max_three min_three max_four min_four
set_option linter.unusedVariables false
set_option linter.unusedSimpArgs false
set_option maxRecDepth 100000
/-! ### spec_l13Copy: function 71 -/
def spec_l13Copy.l0 : Nat → (List S190) → Int → S61 → (List S192) → (List S128) → Option (S61)
  | 0, _, _, _, _, _ => none
  | k + 1, l20, x22, a0, t102001, y106999 => (if x22 < (a0.f1.length : Int) then (if 0 ≤ x22 then (if x22 < (a0.f1.length : Int) then ((spec_l10Copy.f (rd_T190 a0.f1 x22)).bind fun t307001 => (if l20.length + 1 ≤ 1599289640401 then (lets (l20 ++ ([t307001] : List S190)) fun y309999 => (spec_l13Copy.l0 k y309999 (wrap64 (x22 + 1)) a0 t102001 y106999)) else none)) else none) else none) else (some (⟨t102001, l20, y106999⟩ : S61)))
def spec_l13Copy.f (k : Nat) (a0 : S61) : Option (S61) := ((spec_l13Certs.f k a0.f0).bind fun t102001 => (if 0 + a0.f2.length ≤ 4398046511104 then (lets (([] : List S128) ++ a0.f2) fun y106999 => (spec_l13Copy.l0 k [] 0 a0 t102001 y106999)) else none))
def spec_l13Copy.T1 : Bool × List (List Nat × List Nat) := (true, [([], []), ([0], [0]), ([1], [1]), ([], []), ([], []), ([4], [4]), ([3, 5, 2], [3, 5]), ([2, 6], [2, 6]), ([], []), ([8, 7, 6, 0, 1, 2, 3, 4, 5, 6, 7, 8], [7, 8])])
theorem spec_l13Copy.tT1 : rtab .any (opsOf Try.f71 1) = spec_l13Copy.T1 := by kernel_rfl
def spec_l13Copy.T5 : Bool × List (List Nat × List Nat) := (true, [([], []), ([0], [0]), ([], []), ([2], [2]), ([], []), ([3, 4], [3, 4]), ([5], [5]), ([6], [6]), ([7], [7]), ([1, 8, 7], [1, 8]), ([0, 1, 2, 3, 4, 5, 6, 7, 8, 9], []), ([10, 9, 9, 0, 1, 2, 3, 4, 5, 6, 7, 8, 9], [9, 10])])
theorem spec_l13Copy.tT5 : rtab .any (opsOf Try.f71 5) = spec_l13Copy.T5 := by kernel_rfl
set_option maxHeartbeats 16000000 in
theorem spec_l13Copy.calls {k : Nat} {a0 : S61} {Ap0 : Option Addr} {np0 cp0 : Nat} {Ap1 : Option Addr} {np1 cp1 : Nat} {Ap2 : Option Addr} {np2 cp2 : Nat} {r : S61} {w : World} (h : spec_l13Copy.f k a0 = some r) (gp0 : k192.C w Ap0 np0 a0.f0) (lp0 : np0 ≤ cp0) (gp1 : k190.C w Ap1 np1 a0.f1) (lp1 : np1 ≤ cp1) (gp2 : k128.C w Ap2 np2 a0.f2) (lp2 : np2 ≤ cp2) :
    Calls Try.prog 71 #[.agg #[.slice Ap0 np0 cp0, .slice Ap1 np1 cp1, .slice Ap2 np2 cp2]] w (fun e w' => ∃ v0_ v1_ v2_ : Value, e = .returned (.agg #[v0_, v1_, v2_]) ∧ Hp noFP w w' [.own (Zd.slice 192 q192) r.f0 [v0_], .own (Zd.slice 190 q190) r.f1 [v1_], .own (Zd.slice 128 q128) r.f2 [v2_]]) := by
 obtain rfl := C_len gp0
 obtain rfl := C_len gp1
 obtain rfl := C_len gp2
 have HS := Hp.start w
 have H := Aside0.mk h
 clear h
 unfold spec_l13Copy.f at H
 go_enter Try.func71, Try.ntmps71
 go_wp2_with (first | ((with_reducible refine gate_dst (N := 1) rfl ?_); refine ev_box rfl HS (by first | (go_simp; done) | (go_simp; rfl)) rfl ?_; clear HS; (try clear F); intro g1 w1 HS; replace HS : Hp noFP w _ [.box g1 [.slice Ap0 a0.f0.length cp0, .slice Ap1 a0.f1.length cp1, .slice Ap2 a0.f2.length cp2] 61] := HS; have F := HS.boxes; simp only [boxFacts, and_true] at F) | ((with_reducible refine gate_dst (N := 2) rfl ?_); refine ev_box rfl HS (by first | (go_simp; done) | (go_simp; rfl)) rfl ?_; clear HS; (try clear F); intro g2 w2 HS; replace HS : Hp noFP w _ [.box g1 [.slice Ap0 a0.f0.length cp0, .slice Ap1 a0.f1.length cp1, .slice Ap2 a0.f2.length cp2] 61, .box g2 [.slice none 0 0, .slice none 0 0, .slice none 0 0] 61] := HS; have F := HS.boxes; simp only [boxFacts, and_true] at F))
 replace H := zbind H; obtain ⟨t102001, ht102001, H⟩ := H
 by_cases c106001 : 0 + a0.f2.length ≤ 4398046511104
 case neg => exact zno c106001 H
 replace H := zpos c106001 H
 replace c106001 := eq_true c106001
 replace H := zlets H; obtain ⟨y106999, e_y106999, H⟩ := H
 refine dr_start [9] HS #[false, false, false, false, false, false, false, false, false, false] (by kernel_rfl) rfl rfl spec_l13Copy.tT1 (fun w6 HT HS HH => ?_)
 (try clear F)
 refine join_ 0 #[true, true, true, true, true, true, true, true, true, true] (fun ((v102002, v103001, v106999, g3) : Value × Value × Value × Nat) => ([(5, .pointer (some ⟨g1, 0, none⟩)), (6, .slice Ap0 a0.f0.length cp0), (7, v102002), (8, v103001), (9, .pointer (some ⟨g1, 2, none⟩)), (10, .slice Ap2 a0.f2.length cp2), (11, v106999), (12, .agg #[v102002, .slice none 0 0, v106999]), (3, .pointer (some ⟨g3, 0, none⟩))] : List (Tmp × Value))) (fun ((v102002, v103001, v106999, g3) : Value × Value × Value × Nat) w' => Hp noFP w w' [.box g1 [.slice Ap0 a0.f0.length cp0, .slice Ap1 a0.f1.length cp1, .slice Ap2 a0.f2.length cp2] 61, .box g2 [.slice none 0 0, .slice none 0 0, .slice none 0 0] 61, .own (Zd.slice 192 q192) t102001 [v102002], .emp, .own (Zd.slice 128 q128) y106999 [v106999], .box g3 [v102002, .slice none 0 0, v106999] 61]) ?_ ?_
 rotate_left
 · intro hJ
   refine drq_of [(0, some 5), (1, some 6), (4, some 9), (5, some 10)] ?_
   repeat (first | (refine drq_pure HT (v := ?_) (a' := ?_) rfl rfl (by kernel_rfl) (fun _ _ _ h => h) (.inl ⟨by rfl, ?_⟩) ?_ ?_; rotate_left; (intro w'; go_simp; with_reducible rfl); rotate_left; (simp only [Act.put, List.setIfInBounds_toArray, List.set_cons_zero, List.set_cons_succ, i64_w, i32_w]; rfl)) | (refine drq_take HT HH (v := ?_) (a' := ?_) rfl rfl (by kernel_rfl) (fun _ _ _ h => h) (.inl ⟨by rfl, ?_⟩) ?_ ?_; rotate_left; (rintro w' ⟨rs', HS'⟩; have F := HS'.boxes; simp only [boxFacts, List.cons_append, List.nil_append, and_true] at F; go_simp; with_reducible rfl); rotate_left; (simp only [Act.put, List.setIfInBounds_toArray, List.set_cons_zero, List.set_cons_succ, i64_w, i32_w]; rfl)))
   refine drq_end ?_
   refine dr_any [2, 3, 8] HT (by kernel_rfl) (by decide) (AllReadyL.cons rfl (by decide) (fun K hK => ?_) (AllReadyL.cons rfl (by decide) (fun K hK => ?_) (AllReadyL.cons rfl (by decide) (fun K hK => ?_) AllReadyL.nil)))
   · refine goes_ Try.func129 (by kernel_rfl) rfl #[.slice Ap0 a0.f0.length cp0] (by rfl) rfl rfl (by simp only [List.map_toArray, List.map_cons, List.map_nil]; rfl) ?_; refine (spec_l13Certs.calls ht102001.out (HS.ro gp0) lp0).mono ?_; rintro _ wt102001 ⟨v102002, rfl, HQ⟩; refine ⟨_, rfl, ?_⟩; replace HS := HS.call HQ; clear HQ; (try clear F); obtain ⟨B102002, d102002, rfl, m102002⟩ := HS.form 2 rfl
     replace HS : Hp noFP w _ [.box g1 [.slice Ap0 a0.f0.length cp0, .slice Ap1 a0.f1.length cp1, .slice Ap2 a0.f2.length cp2] 61, .box g2 [.slice none 0 0, .slice none 0 0, .slice none 0 0] 61, .own (Zd.slice 192 q192) t102001 [.slice B102002 t102001.length d102002]] := HS
     have F := HS.boxes; simp only [boxFacts, and_true] at F
     refine hK.out _ _ ⟨_, HS⟩ (fun HH => ?_)
     clear hK K
     refine norm_ (a' := ?_) ?_ ?_
     rotate_left
     · show Act.put _ (some 7) _ = _; simp only [Act.put, List.setIfInBounds_toArray, List.set_cons_zero, List.set_cons_succ, i64_w, i32_w]; rfl
     refine dr_any [3, 8] HT (by kernel_rfl) (by decide) (AllReadyL.cons rfl (by decide) (fun K hK => ?_) (AllReadyL.cons rfl (by decide) (fun K hK => ?_) AllReadyL.nil))
     · refine if_wp (by rfl) ?_; refine wp_lit q128 [] ([] : List S128) [] HS (by first | (go_simp; done) | (go_simp; rfl)) rfl rfl (Nat.le_of_ble_eq_true rfl) MadeL.nil ?_; clear HS; (try clear F); intro v103001 w103001 HS; obtain ⟨B103001, d103001, rfl, m103001⟩ := HS.formn 0 3 rfl rfl
       replace HS : Hp noFP w _ [.box g1 [.slice Ap0 a0.f0.length cp0, .slice Ap1 a0.f1.length cp1, .slice Ap2 a0.f2.length cp2] 61, .box g2 [.slice none 0 0, .slice none 0 0, .slice none 0 0] 61, .own (Zd.slice 192 q192) t102001 [.slice B102002 t102001.length d102002], .own (Zd.slice 128 q128) ([] : List S128) [.slice B103001 0 d103001]] := HS
       have F := HS.boxes; simp only [boxFacts, and_true] at F
       refine hK.out _ _ ⟨_, HS⟩ (fun HH => ?_)
       clear hK K
       refine norm_ (a' := ?_) ?_ ?_
       rotate_left
       · show Act.put _ (some 8) _ = _; simp only [Act.put, List.setIfInBounds_toArray, List.set_cons_zero, List.set_cons_succ, i64_w, i32_w]; rfl
       refine dr_any [6, 8] HT (by kernel_rfl) (by decide) (AllReadyL.cons rfl (by decide) (fun K hK => ?_) (AllReadyL.cons rfl (by decide) (fun K hK => ?_) AllReadyL.nil))
       · refine if_wp (by rfl) ?_; refine wp_appendr q128 fl128 3 HS rfl (HS.ro gp2) rfl rfl rfl Try.underlying59 info128 rfl (by decide) (by decide) (by have := of_eq_true c106001; first | omega | (simp only [List.length_cons, List.length_nil, List.length_append, Nat.zero_add] at this ⊢; omega)) ?_; clear HS; (try clear F); intro v106999 w106999 HS; rw [← e_y106999.out] at HS; obtain ⟨B106999, d106999, rfl, m106999⟩ := HS.form 4 rfl
         replace HS : Hp noFP w _ [.box g1 [.slice Ap0 a0.f0.length cp0, .slice Ap1 a0.f1.length cp1, .slice Ap2 a0.f2.length cp2] 61, .box g2 [.slice none 0 0, .slice none 0 0, .slice none 0 0] 61, .own (Zd.slice 192 q192) t102001 [.slice B102002 t102001.length d102002], .emp, .own (Zd.slice 128 q128) y106999 [.slice B106999 y106999.length d106999]] := HS
         have F := HS.boxes; simp only [boxFacts, and_true] at F
         refine hK.out _ _ ⟨_, HS⟩ (fun HH => ?_)
         clear hK K
         refine norm_ (a' := ?_) ?_ ?_
         rotate_left
         · show Act.put _ (some 11) _ = _; simp only [Act.put, List.setIfInBounds_toArray, List.set_cons_zero, List.set_cons_succ, i64_w, i32_w]; rfl
         refine drq_of [(7, some 12)] ?_
         repeat (first | (refine drq_pure HT (v := ?_) (a' := ?_) rfl rfl (by kernel_rfl) (fun _ _ _ h => h) (.inl ⟨by rfl, ?_⟩) ?_ ?_; rotate_left; (intro w'; go_simp; with_reducible rfl); rotate_left; (simp only [Act.put, List.setIfInBounds_toArray, List.set_cons_zero, List.set_cons_succ, i64_w, i32_w]; rfl)))
         refine drq_end ?_
         refine dr_one 8 HT rfl (by kernel_rfl) (by decide) (fun K hK => ?_)
         refine if_wp (by rfl) ?_; refine wp_box HS (by first | (go_simp; done) | (go_simp; rfl)) rfl ?_; clear HS; (try clear F); intro g3 w3 HS
         replace HS : Hp noFP w _ [.box g1 [.slice Ap0 a0.f0.length cp0, .slice Ap1 a0.f1.length cp1, .slice Ap2 a0.f2.length cp2] 61, .box g2 [.slice none 0 0, .slice none 0 0, .slice none 0 0] 61, .own (Zd.slice 192 q192) t102001 [.slice B102002 t102001.length d102002], .emp, .own (Zd.slice 128 q128) y106999 [.slice B106999 y106999.length d106999], .box g3 [.slice none 0 0, .slice none 0 0, .slice none 0 0] 61] := HS
         have F := HS.boxes; simp only [boxFacts, and_true] at F
         refine hK.out _ _ ⟨_, HS⟩ (fun HH => ?_)
         clear hK K
         refine norm_ (a' := ?_) ?_ ?_
         rotate_left
         · show Act.put _ (some 3) _ = _; simp only [Act.put, List.setIfInBounds_toArray, List.set_cons_zero, List.set_cons_succ, i64_w, i32_w]; rfl
         refine dr_last 9 HT rfl (by kernel_rfl) (by decide) (fun K hK => ?_)
         refine if_wp (by rfl) ?_; refine wp_store 5 0 HS (seg := [.slice B102002 t102001.length d102002, .slice none 0 0, .slice B106999 y106999.length d106999]) rfl rfl rfl rfl rfl rfl (by kernel_rfl) (by simp [wrt]) (by simp [Value.oneCell']) ?_; clear HS; (try clear F); intro w109001 HS
         replace HS : Hp noFP w _ [.box g1 [.slice Ap0 a0.f0.length cp0, .slice Ap1 a0.f1.length cp1, .slice Ap2 a0.f2.length cp2] 61, .box g2 [.slice none 0 0, .slice none 0 0, .slice none 0 0] 61, .own (Zd.slice 192 q192) t102001 [.slice B102002 t102001.length d102002], .emp, .own (Zd.slice 128 q128) y106999 [.slice B106999 y106999.length d106999], .box g3 [.slice B102002 t102001.length d102002, .slice none 0 0, .slice B106999 y106999.length d106999] 61] := HS
         have F := HS.boxes; simp only [boxFacts, and_true] at F
         refine hK.out _ _ ?_
         clear hK K
         refine norm_ ?_ (hJ (.slice B102002 t102001.length d102002, .slice B103001 0 d103001, .slice B106999 y106999.length d106999, g3) _ (HS.arr [some 0, some 1, some 2, none, some 4, some 5] (by decide)))
         simp only [putAll, Act.put, List.setIfInBounds_toArray, List.set_cons_zero, List.set_cons_succ, i64_w, i32_w]
         (try rfl)
       · refine if_wp (by rfl) ?_; refine wp_box HS (by first | (go_simp; done) | (go_simp; rfl)) rfl ?_; clear HS; (try clear F); intro g3 w3 HS
         replace HS : Hp noFP w _ [.box g1 [.slice Ap0 a0.f0.length cp0, .slice Ap1 a0.f1.length cp1, .slice Ap2 a0.f2.length cp2] 61, .box g2 [.slice none 0 0, .slice none 0 0, .slice none 0 0] 61, .own (Zd.slice 192 q192) t102001 [.slice B102002 t102001.length d102002], .own (Zd.slice 128 q128) ([] : List S128) [.slice B103001 0 d103001], .box g3 [.slice none 0 0, .slice none 0 0, .slice none 0 0] 61] := HS
         have F := HS.boxes; simp only [boxFacts, and_true] at F
         refine hK.out _ _ ⟨_, HS⟩ (fun HH => ?_)
         clear hK K
         refine norm_ (a' := ?_) ?_ ?_
         rotate_left
         · show Act.put _ (some 3) _ = _; simp only [Act.put, List.setIfInBounds_toArray, List.set_cons_zero, List.set_cons_succ, i64_w, i32_w]; rfl
         refine dr_one 6 HT rfl (by kernel_rfl) (by decide) (fun K hK => ?_)
         refine if_wp (by rfl) ?_; refine wp_appendr q128 fl128 3 HS rfl (HS.ro gp2) rfl rfl rfl Try.underlying59 info128 rfl (by decide) (by decide) (by have := of_eq_true c106001; first | omega | (simp only [List.length_cons, List.length_nil, List.length_append, Nat.zero_add] at this ⊢; omega)) ?_; clear HS; (try clear F); intro v106999 w106999 HS; rw [← e_y106999.out] at HS; obtain ⟨B106999, d106999, rfl, m106999⟩ := HS.form 5 rfl
         replace HS : Hp noFP w _ [.box g1 [.slice Ap0 a0.f0.length cp0, .slice Ap1 a0.f1.length cp1, .slice Ap2 a0.f2.length cp2] 61, .box g2 [.slice none 0 0, .slice none 0 0, .slice none 0 0] 61, .own (Zd.slice 192 q192) t102001 [.slice B102002 t102001.length d102002], .emp, .box g3 [.slice none 0 0, .slice none 0 0, .slice none 0 0] 61, .own (Zd.slice 128 q128) y106999 [.slice B106999 y106999.length d106999]] := HS
         have F := HS.boxes; simp only [boxFacts, and_true] at F
         refine hK.out _ _ ⟨_, HS⟩ (fun HH => ?_)
         clear hK K
         refine norm_ (a' := ?_) ?_ ?_
         rotate_left
         · show Act.put _ (some 11) _ = _; simp only [Act.put, List.setIfInBounds_toArray, List.set_cons_zero, List.set_cons_succ, i64_w, i32_w]; rfl
         refine drq_of [(7, some 12)] ?_
         repeat (first | (refine drq_pure HT (v := ?_) (a' := ?_) rfl rfl (by kernel_rfl) (fun _ _ _ h => h) (.inl ⟨by rfl, ?_⟩) ?_ ?_; rotate_left; (intro w'; go_simp; with_reducible rfl); rotate_left; (simp only [Act.put, List.setIfInBounds_toArray, List.set_cons_zero, List.set_cons_succ, i64_w, i32_w]; rfl)))
         refine drq_end ?_
         refine dr_last 9 HT rfl (by kernel_rfl) (by decide) (fun K hK => ?_)
         refine if_wp (by rfl) ?_; refine wp_store 4 0 HS (seg := [.slice B102002 t102001.length d102002, .slice none 0 0, .slice B106999 y106999.length d106999]) rfl rfl rfl rfl rfl rfl (by kernel_rfl) (by simp [wrt]) (by simp [Value.oneCell']) ?_; clear HS; (try clear F); intro w109001 HS
         replace HS : Hp noFP w _ [.box g1 [.slice Ap0 a0.f0.length cp0, .slice Ap1 a0.f1.length cp1, .slice Ap2 a0.f2.length cp2] 61, .box g2 [.slice none 0 0, .slice none 0 0, .slice none 0 0] 61, .own (Zd.slice 192 q192) t102001 [.slice B102002 t102001.length d102002], .emp, .box g3 [.slice B102002 t102001.length d102002, .slice none 0 0, .slice B106999 y106999.length d106999] 61, .own (Zd.slice 128 q128) y106999 [.slice B106999 y106999.length d106999]] := HS
         have F := HS.boxes; simp only [boxFacts, and_true] at F
         refine hK.out _ _ ?_
         clear hK K
         refine norm_ ?_ (hJ (.slice B102002 t102001.length d102002, .slice B103001 0 d103001, .slice B106999 y106999.length d106999, g3) _ (HS.arr [some 0, some 1, some 2, none, some 5, some 4] (by decide)))
         simp only [putAll, Act.put, List.setIfInBounds_toArray, List.set_cons_zero, List.set_cons_succ, i64_w, i32_w]
         (try rfl)
     · refine if_wp (by rfl) ?_; refine wp_box HS (by first | (go_simp; done) | (go_simp; rfl)) rfl ?_; clear HS; (try clear F); intro g3 w3 HS
       replace HS : Hp noFP w _ [.box g1 [.slice Ap0 a0.f0.length cp0, .slice Ap1 a0.f1.length cp1, .slice Ap2 a0.f2.length cp2] 61, .box g2 [.slice none 0 0, .slice none 0 0, .slice none 0 0] 61, .own (Zd.slice 192 q192) t102001 [.slice B102002 t102001.length d102002], .box g3 [.slice none 0 0, .slice none 0 0, .slice none 0 0] 61] := HS
       have F := HS.boxes; simp only [boxFacts, and_true] at F
       refine hK.out _ _ ⟨_, HS⟩ (fun HH => ?_)
       clear hK K
       refine norm_ (a' := ?_) ?_ ?_
       rotate_left
       · show Act.put _ (some 3) _ = _; simp only [Act.put, List.setIfInBounds_toArray, List.set_cons_zero, List.set_cons_succ, i64_w, i32_w]; rfl
       refine dr_one 3 HT rfl (by kernel_rfl) (by decide) (fun K hK => ?_)
       refine if_wp (by rfl) ?_; refine wp_lit q128 [] ([] : List S128) [] HS (by first | (go_simp; done) | (go_simp; rfl)) rfl rfl (Nat.le_of_ble_eq_true rfl) MadeL.nil ?_; clear HS; (try clear F); intro v103001 w103001 HS; obtain ⟨B103001, d103001, rfl, m103001⟩ := HS.formn 0 4 rfl rfl
       replace HS : Hp noFP w _ [.box g1 [.slice Ap0 a0.f0.length cp0, .slice Ap1 a0.f1.length cp1, .slice Ap2 a0.f2.length cp2] 61, .box g2 [.slice none 0 0, .slice none 0 0, .slice none 0 0] 61, .own (Zd.slice 192 q192) t102001 [.slice B102002 t102001.length d102002], .box g3 [.slice none 0 0, .slice none 0 0, .slice none 0 0] 61, .own (Zd.slice 128 q128) ([] : List S128) [.slice B103001 0 d103001]] := HS
       have F := HS.boxes; simp only [boxFacts, and_true] at F
       refine hK.out _ _ ⟨_, HS⟩ (fun HH => ?_)
       clear hK K
       refine norm_ (a' := ?_) ?_ ?_
       rotate_left
       · show Act.put _ (some 8) _ = _; simp only [Act.put, List.setIfInBounds_toArray, List.set_cons_zero, List.set_cons_succ, i64_w, i32_w]; rfl
       refine dr_one 6 HT rfl (by kernel_rfl) (by decide) (fun K hK => ?_)
       refine if_wp (by rfl) ?_; refine wp_appendr q128 fl128 4 HS rfl (HS.ro gp2) rfl rfl rfl Try.underlying59 info128 rfl (by decide) (by decide) (by have := of_eq_true c106001; first | omega | (simp only [List.length_cons, List.length_nil, List.length_append, Nat.zero_add] at this ⊢; omega)) ?_; clear HS; (try clear F); intro v106999 w106999 HS; rw [← e_y106999.out] at HS; obtain ⟨B106999, d106999, rfl, m106999⟩ := HS.form 5 rfl
       replace HS : Hp noFP w _ [.box g1 [.slice Ap0 a0.f0.length cp0, .slice Ap1 a0.f1.length cp1, .slice Ap2 a0.f2.length cp2] 61, .box g2 [.slice none 0 0, .slice none 0 0, .slice none 0 0] 61, .own (Zd.slice 192 q192) t102001 [.slice B102002 t102001.length d102002], .box g3 [.slice none 0 0, .slice none 0 0, .slice none 0 0] 61, .emp, .own (Zd.slice 128 q128) y106999 [.slice B106999 y106999.length d106999]] := HS
       have F := HS.boxes; simp only [boxFacts, and_true] at F
       refine hK.out _ _ ⟨_, HS⟩ (fun HH => ?_)
       clear hK K
       refine norm_ (a' := ?_) ?_ ?_
       rotate_left
       · show Act.put _ (some 11) _ = _; simp only [Act.put, List.setIfInBounds_toArray, List.set_cons_zero, List.set_cons_succ, i64_w, i32_w]; rfl
       refine drq_of [(7, some 12)] ?_
       repeat (first | (refine drq_pure HT (v := ?_) (a' := ?_) rfl rfl (by kernel_rfl) (fun _ _ _ h => h) (.inl ⟨by rfl, ?_⟩) ?_ ?_; rotate_left; (intro w'; go_simp; with_reducible rfl); rotate_left; (simp only [Act.put, List.setIfInBounds_toArray, List.set_cons_zero, List.set_cons_succ, i64_w, i32_w]; rfl)))
       refine drq_end ?_
       refine dr_last 9 HT rfl (by kernel_rfl) (by decide) (fun K hK => ?_)
       refine if_wp (by rfl) ?_; refine wp_store 3 0 HS (seg := [.slice B102002 t102001.length d102002, .slice none 0 0, .slice B106999 y106999.length d106999]) rfl rfl rfl rfl rfl rfl (by kernel_rfl) (by simp [wrt]) (by simp [Value.oneCell']) ?_; clear HS; (try clear F); intro w109001 HS
       replace HS : Hp noFP w _ [.box g1 [.slice Ap0 a0.f0.length cp0, .slice Ap1 a0.f1.length cp1, .slice Ap2 a0.f2.length cp2] 61, .box g2 [.slice none 0 0, .slice none 0 0, .slice none 0 0] 61, .own (Zd.slice 192 q192) t102001 [.slice B102002 t102001.length d102002], .box g3 [.slice B102002 t102001.length d102002, .slice none 0 0, .slice B106999 y106999.length d106999] 61, .emp, .own (Zd.slice 128 q128) y106999 [.slice B106999 y106999.length d106999]] := HS
       have F := HS.boxes; simp only [boxFacts, and_true] at F
       refine hK.out _ _ ?_
       clear hK K
       refine norm_ ?_ (hJ (.slice B102002 t102001.length d102002, .slice B103001 0 d103001, .slice B106999 y106999.length d106999, g3) _ (HS.arr [some 0, some 1, some 2, none, some 5, some 3] (by decide)))
       simp only [putAll, Act.put, List.setIfInBounds_toArray, List.set_cons_zero, List.set_cons_succ, i64_w, i32_w]
       (try rfl)
   · refine if_wp (by rfl) ?_; refine wp_lit q128 [] ([] : List S128) [] HS (by first | (go_simp; done) | (go_simp; rfl)) rfl rfl (Nat.le_of_ble_eq_true rfl) MadeL.nil ?_; clear HS; (try clear F); intro v103001 w103001 HS; obtain ⟨B103001, d103001, rfl, m103001⟩ := HS.formn 0 2 rfl rfl
     replace HS : Hp noFP w _ [.box g1 [.slice Ap0 a0.f0.length cp0, .slice Ap1 a0.f1.length cp1, .slice Ap2 a0.f2.length cp2] 61, .box g2 [.slice none 0 0, .slice none 0 0, .slice none 0 0] 61, .own (Zd.slice 128 q128) ([] : List S128) [.slice B103001 0 d103001]] := HS
     have F := HS.boxes; simp only [boxFacts, and_true] at F
     refine hK.out _ _ ⟨_, HS⟩ (fun HH => ?_)
     clear hK K
     refine norm_ (a' := ?_) ?_ ?_
     rotate_left
     · show Act.put _ (some 8) _ = _; simp only [Act.put, List.setIfInBounds_toArray, List.set_cons_zero, List.set_cons_succ, i64_w, i32_w]; rfl
     refine dr_any [2, 8] HT (by kernel_rfl) (by decide) (AllReadyL.cons rfl (by decide) (fun K hK => ?_) (AllReadyL.cons rfl (by decide) (fun K hK => ?_) AllReadyL.nil))
     · refine goes_ Try.func129 (by kernel_rfl) rfl #[.slice Ap0 a0.f0.length cp0] (by rfl) rfl rfl (by simp only [List.map_toArray, List.map_cons, List.map_nil]; rfl) ?_; refine (spec_l13Certs.calls ht102001.out (HS.ro gp0) lp0).mono ?_; rintro _ wt102001 ⟨v102002, rfl, HQ⟩; refine ⟨_, rfl, ?_⟩; replace HS := HS.call HQ; clear HQ; (try clear F); obtain ⟨B102002, d102002, rfl, m102002⟩ := HS.form 3 rfl
       replace HS : Hp noFP w _ [.box g1 [.slice Ap0 a0.f0.length cp0, .slice Ap1 a0.f1.length cp1, .slice Ap2 a0.f2.length cp2] 61, .box g2 [.slice none 0 0, .slice none 0 0, .slice none 0 0] 61, .own (Zd.slice 128 q128) ([] : List S128) [.slice B103001 0 d103001], .own (Zd.slice 192 q192) t102001 [.slice B102002 t102001.length d102002]] := HS
       have F := HS.boxes; simp only [boxFacts, and_true] at F
       refine hK.out _ _ ⟨_, HS⟩ (fun HH => ?_)
       clear hK K
       refine norm_ (a' := ?_) ?_ ?_
       rotate_left
       · show Act.put _ (some 7) _ = _; simp only [Act.put, List.setIfInBounds_toArray, List.set_cons_zero, List.set_cons_succ, i64_w, i32_w]; rfl
       refine dr_any [6, 8] HT (by kernel_rfl) (by decide) (AllReadyL.cons rfl (by decide) (fun K hK => ?_) (AllReadyL.cons rfl (by decide) (fun K hK => ?_) AllReadyL.nil))
       · refine if_wp (by rfl) ?_; refine wp_appendr q128 fl128 2 HS rfl (HS.ro gp2) rfl rfl rfl Try.underlying59 info128 rfl (by decide) (by decide) (by have := of_eq_true c106001; first | omega | (simp only [List.length_cons, List.length_nil, List.length_append, Nat.zero_add] at this ⊢; omega)) ?_; clear HS; (try clear F); intro v106999 w106999 HS; rw [← e_y106999.out] at HS; obtain ⟨B106999, d106999, rfl, m106999⟩ := HS.form 4 rfl
         replace HS : Hp noFP w _ [.box g1 [.slice Ap0 a0.f0.length cp0, .slice Ap1 a0.f1.length cp1, .slice Ap2 a0.f2.length cp2] 61, .box g2 [.slice none 0 0, .slice none 0 0, .slice none 0 0] 61, .emp, .own (Zd.slice 192 q192) t102001 [.slice B102002 t102001.length d102002], .own (Zd.slice 128 q128) y106999 [.slice B106999 y106999.length d106999]] := HS
         have F := HS.boxes; simp only [boxFacts, and_true] at F
         refine hK.out _ _ ⟨_, HS⟩ (fun HH => ?_)
         clear hK K
         refine norm_ (a' := ?_) ?_ ?_
         rotate_left
         · show Act.put _ (some 11) _ = _; simp only [Act.put, List.setIfInBounds_toArray, List.set_cons_zero, List.set_cons_succ, i64_w, i32_w]; rfl
         refine drq_of [(7, some 12)] ?_
         repeat (first | (refine drq_pure HT (v := ?_) (a' := ?_) rfl rfl (by kernel_rfl) (fun _ _ _ h => h) (.inl ⟨by rfl, ?_⟩) ?_ ?_; rotate_left; (intro w'; go_simp; with_reducible rfl); rotate_left; (simp only [Act.put, List.setIfInBounds_toArray, List.set_cons_zero, List.set_cons_succ, i64_w, i32_w]; rfl)))
         refine drq_end ?_
         refine dr_one 8 HT rfl (by kernel_rfl) (by decide) (fun K hK => ?_)
         refine if_wp (by rfl) ?_; refine wp_box HS (by first | (go_simp; done) | (go_simp; rfl)) rfl ?_; clear HS; (try clear F); intro g3 w3 HS
         replace HS : Hp noFP w _ [.box g1 [.slice Ap0 a0.f0.length cp0, .slice Ap1 a0.f1.length cp1, .slice Ap2 a0.f2.length cp2] 61, .box g2 [.slice none 0 0, .slice none 0 0, .slice none 0 0] 61, .emp, .own (Zd.slice 192 q192) t102001 [.slice B102002 t102001.length d102002], .own (Zd.slice 128 q128) y106999 [.slice B106999 y106999.length d106999], .box g3 [.slice none 0 0, .slice none 0 0, .slice none 0 0] 61] := HS
         have F := HS.boxes; simp only [boxFacts, and_true] at F
         refine hK.out _ _ ⟨_, HS⟩ (fun HH => ?_)
         clear hK K
         refine norm_ (a' := ?_) ?_ ?_
         rotate_left
         · show Act.put _ (some 3) _ = _; simp only [Act.put, List.setIfInBounds_toArray, List.set_cons_zero, List.set_cons_succ, i64_w, i32_w]; rfl
         refine dr_last 9 HT rfl (by kernel_rfl) (by decide) (fun K hK => ?_)
         refine if_wp (by rfl) ?_; refine wp_store 5 0 HS (seg := [.slice B102002 t102001.length d102002, .slice none 0 0, .slice B106999 y106999.length d106999]) rfl rfl rfl rfl rfl rfl (by kernel_rfl) (by simp [wrt]) (by simp [Value.oneCell']) ?_; clear HS; (try clear F); intro w109001 HS
         replace HS : Hp noFP w _ [.box g1 [.slice Ap0 a0.f0.length cp0, .slice Ap1 a0.f1.length cp1, .slice Ap2 a0.f2.length cp2] 61, .box g2 [.slice none 0 0, .slice none 0 0, .slice none 0 0] 61, .emp, .own (Zd.slice 192 q192) t102001 [.slice B102002 t102001.length d102002], .own (Zd.slice 128 q128) y106999 [.slice B106999 y106999.length d106999], .box g3 [.slice B102002 t102001.length d102002, .slice none 0 0, .slice B106999 y106999.length d106999] 61] := HS
         have F := HS.boxes; simp only [boxFacts, and_true] at F
         refine hK.out _ _ ?_
         clear hK K
         refine norm_ ?_ (hJ (.slice B102002 t102001.length d102002, .slice B103001 0 d103001, .slice B106999 y106999.length d106999, g3) _ (HS.arr [some 0, some 1, some 3, none, some 4, some 5] (by decide)))
         simp only [putAll, Act.put, List.setIfInBounds_toArray, List.set_cons_zero, List.set_cons_succ, i64_w, i32_w]
         (try rfl)
       · refine if_wp (by rfl) ?_; refine wp_box HS (by first | (go_simp; done) | (go_simp; rfl)) rfl ?_; clear HS; (try clear F); intro g3 w3 HS
         replace HS : Hp noFP w _ [.box g1 [.slice Ap0 a0.f0.length cp0, .slice Ap1 a0.f1.length cp1, .slice Ap2 a0.f2.length cp2] 61, .box g2 [.slice none 0 0, .slice none 0 0, .slice none 0 0] 61, .own (Zd.slice 128 q128) ([] : List S128) [.slice B103001 0 d103001], .own (Zd.slice 192 q192) t102001 [.slice B102002 t102001.length d102002], .box g3 [.slice none 0 0, .slice none 0 0, .slice none 0 0] 61] := HS
         have F := HS.boxes; simp only [boxFacts, and_true] at F
         refine hK.out _ _ ⟨_, HS⟩ (fun HH => ?_)
         clear hK K
         refine norm_ (a' := ?_) ?_ ?_
         rotate_left
         · show Act.put _ (some 3) _ = _; simp only [Act.put, List.setIfInBounds_toArray, List.set_cons_zero, List.set_cons_succ, i64_w, i32_w]; rfl
         refine dr_one 6 HT rfl (by kernel_rfl) (by decide) (fun K hK => ?_)
         refine if_wp (by rfl) ?_; refine wp_appendr q128 fl128 2 HS rfl (HS.ro gp2) rfl rfl rfl Try.underlying59 info128 rfl (by decide) (by decide) (by have := of_eq_true c106001; first | omega | (simp only [List.length_cons, List.length_nil, List.length_append, Nat.zero_add] at this ⊢; omega)) ?_; clear HS; (try clear F); intro v106999 w106999 HS; rw [← e_y106999.out] at HS; obtain ⟨B106999, d106999, rfl, m106999⟩ := HS.form 5 rfl
         replace HS : Hp noFP w _ [.box g1 [.slice Ap0 a0.f0.length cp0, .slice Ap1 a0.f1.length cp1, .slice Ap2 a0.f2.length cp2] 61, .box g2 [.slice none 0 0, .slice none 0 0, .slice none 0 0] 61, .emp, .own (Zd.slice 192 q192) t102001 [.slice B102002 t102001.length d102002], .box g3 [.slice none 0 0, .slice none 0 0, .slice none 0 0] 61, .own (Zd.slice 128 q128) y106999 [.slice B106999 y106999.length d106999]] := HS
         have F := HS.boxes; simp only [boxFacts, and_true] at F
         refine hK.out _ _ ⟨_, HS⟩ (fun HH => ?_)
         clear hK K
         refine norm_ (a' := ?_) ?_ ?_
         rotate_left
         · show Act.put _ (some 11) _ = _; simp only [Act.put, List.setIfInBounds_toArray, List.set_cons_zero, List.set_cons_succ, i64_w, i32_w]; rfl
         refine drq_of [(7, some 12)] ?_
         repeat (first | (refine drq_pure HT (v := ?_) (a' := ?_) rfl rfl (by kernel_rfl) (fun _ _ _ h => h) (.inl ⟨by rfl, ?_⟩) ?_ ?_; rotate_left; (intro w'; go_simp; with_reducible rfl); rotate_left; (simp only [Act.put, List.setIfInBounds_toArray, List.set_cons_zero, List.set_cons_succ, i64_w, i32_w]; rfl)))
         refine drq_end ?_
         refine dr_last 9 HT rfl (by kernel_rfl) (by decide) (fun K hK => ?_)
         refine if_wp (by rfl) ?_; refine wp_store 4 0 HS (seg := [.slice B102002 t102001.length d102002, .slice none 0 0, .slice B106999 y106999.length d106999]) rfl rfl rfl rfl rfl rfl (by kernel_rfl) (by simp [wrt]) (by simp [Value.oneCell']) ?_; clear HS; (try clear F); intro w109001 HS
         replace HS : Hp noFP w _ [.box g1 [.slice Ap0 a0.f0.length cp0, .slice Ap1 a0.f1.length cp1, .slice Ap2 a0.f2.length cp2] 61, .box g2 [.slice none 0 0, .slice none 0 0, .slice none 0 0] 61, .emp, .own (Zd.slice 192 q192) t102001 [.slice B102002 t102001.length d102002], .box g3 [.slice B102002 t102001.length d102002, .slice none 0 0, .slice B106999 y106999.length d106999] 61, .own (Zd.slice 128 q128) y106999 [.slice B106999 y106999.length d106999]] := HS
         have F := HS.boxes; simp only [boxFacts, and_true] at F
         refine hK.out _ _ ?_
         clear hK K
         refine norm_ ?_ (hJ (.slice B102002 t102001.length d102002, .slice B103001 0 d103001, .slice B106999 y106999.length d106999, g3) _ (HS.arr [some 0, some 1, some 3, none, some 5, some 4] (by decide)))
         simp only [putAll, Act.put, List.setIfInBounds_toArray, List.set_cons_zero, List.set_cons_succ, i64_w, i32_w]
         (try rfl)
     · refine if_wp (by rfl) ?_; refine wp_box HS (by first | (go_simp; done) | (go_simp; rfl)) rfl ?_; clear HS; (try clear F); intro g3 w3 HS
       replace HS : Hp noFP w _ [.box g1 [.slice Ap0 a0.f0.length cp0, .slice Ap1 a0.f1.length cp1, .slice Ap2 a0.f2.length cp2] 61, .box g2 [.slice none 0 0, .slice none 0 0, .slice none 0 0] 61, .own (Zd.slice 128 q128) ([] : List S128) [.slice B103001 0 d103001], .box g3 [.slice none 0 0, .slice none 0 0, .slice none 0 0] 61] := HS
       have F := HS.boxes; simp only [boxFacts, and_true] at F
       refine hK.out _ _ ⟨_, HS⟩ (fun HH => ?_)
       clear hK K
       refine norm_ (a' := ?_) ?_ ?_
       rotate_left
       · show Act.put _ (some 3) _ = _; simp only [Act.put, List.setIfInBounds_toArray, List.set_cons_zero, List.set_cons_succ, i64_w, i32_w]; rfl
       refine dr_one 2 HT rfl (by kernel_rfl) (by decide) (fun K hK => ?_)
       refine goes_ Try.func129 (by kernel_rfl) rfl #[.slice Ap0 a0.f0.length cp0] (by rfl) rfl rfl (by simp only [List.map_toArray, List.map_cons, List.map_nil]; rfl) ?_; refine (spec_l13Certs.calls ht102001.out (HS.ro gp0) lp0).mono ?_; rintro _ wt102001 ⟨v102002, rfl, HQ⟩; refine ⟨_, rfl, ?_⟩; replace HS := HS.call HQ; clear HQ; (try clear F); obtain ⟨B102002, d102002, rfl, m102002⟩ := HS.form 4 rfl
       replace HS : Hp noFP w _ [.box g1 [.slice Ap0 a0.f0.length cp0, .slice Ap1 a0.f1.length cp1, .slice Ap2 a0.f2.length cp2] 61, .box g2 [.slice none 0 0, .slice none 0 0, .slice none 0 0] 61, .own (Zd.slice 128 q128) ([] : List S128) [.slice B103001 0 d103001], .box g3 [.slice none 0 0, .slice none 0 0, .slice none 0 0] 61, .own (Zd.slice 192 q192) t102001 [.slice B102002 t102001.length d102002]] := HS
       have F := HS.boxes; simp only [boxFacts, and_true] at F
       refine hK.out _ _ ⟨_, HS⟩ (fun HH => ?_)
       clear hK K
       refine norm_ (a' := ?_) ?_ ?_
       rotate_left
       · show Act.put _ (some 7) _ = _; simp only [Act.put, List.setIfInBounds_toArray, List.set_cons_zero, List.set_cons_succ, i64_w, i32_w]; rfl
       refine dr_one 6 HT rfl (by kernel_rfl) (by decide) (fun K hK => ?_)
       refine if_wp (by rfl) ?_; refine wp_appendr q128 fl128 2 HS rfl (HS.ro gp2) rfl rfl rfl Try.underlying59 info128 rfl (by decide) (by decide) (by have := of_eq_true c106001; first | omega | (simp only [List.length_cons, List.length_nil, List.length_append, Nat.zero_add] at this ⊢; omega)) ?_; clear HS; (try clear F); intro v106999 w106999 HS; rw [← e_y106999.out] at HS; obtain ⟨B106999, d106999, rfl, m106999⟩ := HS.form 5 rfl
       replace HS : Hp noFP w _ [.box g1 [.slice Ap0 a0.f0.length cp0, .slice Ap1 a0.f1.length cp1, .slice Ap2 a0.f2.length cp2] 61, .box g2 [.slice none 0 0, .slice none 0 0, .slice none 0 0] 61, .emp, .box g3 [.slice none 0 0, .slice none 0 0, .slice none 0 0] 61, .own (Zd.slice 192 q192) t102001 [.slice B102002 t102001.length d102002], .own (Zd.slice 128 q128) y106999 [.slice B106999 y106999.length d106999]] := HS
       have F := HS.boxes; simp only [boxFacts, and_true] at F
       refine hK.out _ _ ⟨_, HS⟩ (fun HH => ?_)
       clear hK K
       refine norm_ (a' := ?_) ?_ ?_
       rotate_left
       · show Act.put _ (some 11) _ = _; simp only [Act.put, List.setIfInBounds_toArray, List.set_cons_zero, List.set_cons_succ, i64_w, i32_w]; rfl
       refine drq_of [(7, some 12)] ?_
       repeat (first | (refine drq_pure HT (v := ?_) (a' := ?_) rfl rfl (by kernel_rfl) (fun _ _ _ h => h) (.inl ⟨by rfl, ?_⟩) ?_ ?_; rotate_left; (intro w'; go_simp; with_reducible rfl); rotate_left; (simp only [Act.put, List.setIfInBounds_toArray, List.set_cons_zero, List.set_cons_succ, i64_w, i32_w]; rfl)))
       refine drq_end ?_
       refine dr_last 9 HT rfl (by kernel_rfl) (by decide) (fun K hK => ?_)
       refine if_wp (by rfl) ?_; refine wp_store 3 0 HS (seg := [.slice B102002 t102001.length d102002, .slice none 0 0, .slice B106999 y106999.length d106999]) rfl rfl rfl rfl rfl rfl (by kernel_rfl) (by simp [wrt]) (by simp [Value.oneCell']) ?_; clear HS; (try clear F); intro w109001 HS
       replace HS : Hp noFP w _ [.box g1 [.slice Ap0 a0.f0.length cp0, .slice Ap1 a0.f1.length cp1, .slice Ap2 a0.f2.length cp2] 61, .box g2 [.slice none 0 0, .slice none 0 0, .slice none 0 0] 61, .emp, .box g3 [.slice B102002 t102001.length d102002, .slice none 0 0, .slice B106999 y106999.length d106999] 61, .own (Zd.slice 192 q192) t102001 [.slice B102002 t102001.length d102002], .own (Zd.slice 128 q128) y106999 [.slice B106999 y106999.length d106999]] := HS
       have F := HS.boxes; simp only [boxFacts, and_true] at F
       refine hK.out _ _ ?_
       clear hK K
       refine norm_ ?_ (hJ (.slice B102002 t102001.length d102002, .slice B103001 0 d103001, .slice B106999 y106999.length d106999, g3) _ (HS.arr [some 0, some 1, some 4, none, some 5, some 3] (by decide)))
       simp only [putAll, Act.put, List.setIfInBounds_toArray, List.set_cons_zero, List.set_cons_succ, i64_w, i32_w]
       (try rfl)
   · refine if_wp (by rfl) ?_; refine wp_box HS (by first | (go_simp; done) | (go_simp; rfl)) rfl ?_; clear HS; (try clear F); intro g3 w3 HS
     replace HS : Hp noFP w _ [.box g1 [.slice Ap0 a0.f0.length cp0, .slice Ap1 a0.f1.length cp1, .slice Ap2 a0.f2.length cp2] 61, .box g2 [.slice none 0 0, .slice none 0 0, .slice none 0 0] 61, .box g3 [.slice none 0 0, .slice none 0 0, .slice none 0 0] 61] := HS
     have F := HS.boxes; simp only [boxFacts, and_true] at F
     refine hK.out _ _ ⟨_, HS⟩ (fun HH => ?_)
     clear hK K
     refine norm_ (a' := ?_) ?_ ?_
     rotate_left
     · show Act.put _ (some 3) _ = _; simp only [Act.put, List.setIfInBounds_toArray, List.set_cons_zero, List.set_cons_succ, i64_w, i32_w]; rfl
     refine dr_any [2, 3] HT (by kernel_rfl) (by decide) (AllReadyL.cons rfl (by decide) (fun K hK => ?_) (AllReadyL.cons rfl (by decide) (fun K hK => ?_) AllReadyL.nil))
     · refine goes_ Try.func129 (by kernel_rfl) rfl #[.slice Ap0 a0.f0.length cp0] (by rfl) rfl rfl (by simp only [List.map_toArray, List.map_cons, List.map_nil]; rfl) ?_; refine (spec_l13Certs.calls ht102001.out (HS.ro gp0) lp0).mono ?_; rintro _ wt102001 ⟨v102002, rfl, HQ⟩; refine ⟨_, rfl, ?_⟩; replace HS := HS.call HQ; clear HQ; (try clear F); obtain ⟨B102002, d102002, rfl, m102002⟩ := HS.form 3 rfl
       replace HS : Hp noFP w _ [.box g1 [.slice Ap0 a0.f0.length cp0, .slice Ap1 a0.f1.length cp1, .slice Ap2 a0.f2.length cp2] 61, .box g2 [.slice none 0 0, .slice none 0 0, .slice none 0 0] 61, .box g3 [.slice none 0 0, .slice none 0 0, .slice none 0 0] 61, .own (Zd.slice 192 q192) t102001 [.slice B102002 t102001.length d102002]] := HS
       have F := HS.boxes; simp only [boxFacts, and_true] at F
       refine hK.out _ _ ⟨_, HS⟩ (fun HH => ?_)
       clear hK K
       refine norm_ (a' := ?_) ?_ ?_
       rotate_left
       · show Act.put _ (some 7) _ = _; simp only [Act.put, List.setIfInBounds_toArray, List.set_cons_zero, List.set_cons_succ, i64_w, i32_w]; rfl
       refine dr_one 3 HT rfl (by kernel_rfl) (by decide) (fun K hK => ?_)
       refine if_wp (by rfl) ?_; refine wp_lit q128 [] ([] : List S128) [] HS (by first | (go_simp; done) | (go_simp; rfl)) rfl rfl (Nat.le_of_ble_eq_true rfl) MadeL.nil ?_; clear HS; (try clear F); intro v103001 w103001 HS; obtain ⟨B103001, d103001, rfl, m103001⟩ := HS.formn 0 4 rfl rfl
       replace HS : Hp noFP w _ [.box g1 [.slice Ap0 a0.f0.length cp0, .slice Ap1 a0.f1.length cp1, .slice Ap2 a0.f2.length cp2] 61, .box g2 [.slice none 0 0, .slice none 0 0, .slice none 0 0] 61, .box g3 [.slice none 0 0, .slice none 0 0, .slice none 0 0] 61, .own (Zd.slice 192 q192) t102001 [.slice B102002 t102001.length d102002], .own (Zd.slice 128 q128) ([] : List S128) [.slice B103001 0 d103001]] := HS
       have F := HS.boxes; simp only [boxFacts, and_true] at F
       refine hK.out _ _ ⟨_, HS⟩ (fun HH => ?_)
       clear hK K
       refine norm_ (a' := ?_) ?_ ?_
       rotate_left
       · show Act.put _ (some 8) _ = _; simp only [Act.put, List.setIfInBounds_toArray, List.set_cons_zero, List.set_cons_succ, i64_w, i32_w]; rfl
       refine dr_one 6 HT rfl (by kernel_rfl) (by decide) (fun K hK => ?_)
       refine if_wp (by rfl) ?_; refine wp_appendr q128 fl128 4 HS rfl (HS.ro gp2) rfl rfl rfl Try.underlying59 info128 rfl (by decide) (by decide) (by have := of_eq_true c106001; first | omega | (simp only [List.length_cons, List.length_nil, List.length_append, Nat.zero_add] at this ⊢; omega)) ?_; clear HS; (try clear F); intro v106999 w106999 HS; rw [← e_y106999.out] at HS; obtain ⟨B106999, d106999, rfl, m106999⟩ := HS.form 5 rfl
       replace HS : Hp noFP w _ [.box g1 [.slice Ap0 a0.f0.length cp0, .slice Ap1 a0.f1.length cp1, .slice Ap2 a0.f2.length cp2] 61, .box g2 [.slice none 0 0, .slice none 0 0, .slice none 0 0] 61, .box g3 [.slice none 0 0, .slice none 0 0, .slice none 0 0] 61, .own (Zd.slice 192 q192) t102001 [.slice B102002 t102001.length d102002], .emp, .own (Zd.slice 128 q128) y106999 [.slice B106999 y106999.length d106999]] := HS
       have F := HS.boxes; simp only [boxFacts, and_true] at F
       refine hK.out _ _ ⟨_, HS⟩ (fun HH => ?_)
       clear hK K
       refine norm_ (a' := ?_) ?_ ?_
       rotate_left
       · show Act.put _ (some 11) _ = _; simp only [Act.put, List.setIfInBounds_toArray, List.set_cons_zero, List.set_cons_succ, i64_w, i32_w]; rfl
       refine drq_of [(7, some 12)] ?_
       repeat (first | (refine drq_pure HT (v := ?_) (a' := ?_) rfl rfl (by kernel_rfl) (fun _ _ _ h => h) (.inl ⟨by rfl, ?_⟩) ?_ ?_; rotate_left; (intro w'; go_simp; with_reducible rfl); rotate_left; (simp only [Act.put, List.setIfInBounds_toArray, List.set_cons_zero, List.set_cons_succ, i64_w, i32_w]; rfl)))
       refine drq_end ?_
       refine dr_last 9 HT rfl (by kernel_rfl) (by decide) (fun K hK => ?_)
       refine if_wp (by rfl) ?_; refine wp_store 2 0 HS (seg := [.slice B102002 t102001.length d102002, .slice none 0 0, .slice B106999 y106999.length d106999]) rfl rfl rfl rfl rfl rfl (by kernel_rfl) (by simp [wrt]) (by simp [Value.oneCell']) ?_; clear HS; (try clear F); intro w109001 HS
       replace HS : Hp noFP w _ [.box g1 [.slice Ap0 a0.f0.length cp0, .slice Ap1 a0.f1.length cp1, .slice Ap2 a0.f2.length cp2] 61, .box g2 [.slice none 0 0, .slice none 0 0, .slice none 0 0] 61, .box g3 [.slice B102002 t102001.length d102002, .slice none 0 0, .slice B106999 y106999.length d106999] 61, .own (Zd.slice 192 q192) t102001 [.slice B102002 t102001.length d102002], .emp, .own (Zd.slice 128 q128) y106999 [.slice B106999 y106999.length d106999]] := HS
       have F := HS.boxes; simp only [boxFacts, and_true] at F
       refine hK.out _ _ ?_
       clear hK K
       refine norm_ ?_ (hJ (.slice B102002 t102001.length d102002, .slice B103001 0 d103001, .slice B106999 y106999.length d106999, g3) _ (HS.arr [some 0, some 1, some 3, none, some 5, some 2] (by decide)))
       simp only [putAll, Act.put, List.setIfInBounds_toArray, List.set_cons_zero, List.set_cons_succ, i64_w, i32_w]
       (try rfl)
     · refine if_wp (by rfl) ?_; refine wp_lit q128 [] ([] : List S128) [] HS (by first | (go_simp; done) | (go_simp; rfl)) rfl rfl (Nat.le_of_ble_eq_true rfl) MadeL.nil ?_; clear HS; (try clear F); intro v103001 w103001 HS; obtain ⟨B103001, d103001, rfl, m103001⟩ := HS.formn 0 3 rfl rfl
       replace HS : Hp noFP w _ [.box g1 [.slice Ap0 a0.f0.length cp0, .slice Ap1 a0.f1.length cp1, .slice Ap2 a0.f2.length cp2] 61, .box g2 [.slice none 0 0, .slice none 0 0, .slice none 0 0] 61, .box g3 [.slice none 0 0, .slice none 0 0, .slice none 0 0] 61, .own (Zd.slice 128 q128) ([] : List S128) [.slice B103001 0 d103001]] := HS
       have F := HS.boxes; simp only [boxFacts, and_true] at F
       refine hK.out _ _ ⟨_, HS⟩ (fun HH => ?_)
       clear hK K
       refine norm_ (a' := ?_) ?_ ?_
       rotate_left
       · show Act.put _ (some 8) _ = _; simp only [Act.put, List.setIfInBounds_toArray, List.set_cons_zero, List.set_cons_succ, i64_w, i32_w]; rfl
       refine dr_one 2 HT rfl (by kernel_rfl) (by decide) (fun K hK => ?_)
       refine goes_ Try.func129 (by kernel_rfl) rfl #[.slice Ap0 a0.f0.length cp0] (by rfl) rfl rfl (by simp only [List.map_toArray, List.map_cons, List.map_nil]; rfl) ?_; refine (spec_l13Certs.calls ht102001.out (HS.ro gp0) lp0).mono ?_; rintro _ wt102001 ⟨v102002, rfl, HQ⟩; refine ⟨_, rfl, ?_⟩; replace HS := HS.call HQ; clear HQ; (try clear F); obtain ⟨B102002, d102002, rfl, m102002⟩ := HS.form 4 rfl
       replace HS : Hp noFP w _ [.box g1 [.slice Ap0 a0.f0.length cp0, .slice Ap1 a0.f1.length cp1, .slice Ap2 a0.f2.length cp2] 61, .box g2 [.slice none 0 0, .slice none 0 0, .slice none 0 0] 61, .box g3 [.slice none 0 0, .slice none 0 0, .slice none 0 0] 61, .own (Zd.slice 128 q128) ([] : List S128) [.slice B103001 0 d103001], .own (Zd.slice 192 q192) t102001 [.slice B102002 t102001.length d102002]] := HS
       have F := HS.boxes; simp only [boxFacts, and_true] at F
       refine hK.out _ _ ⟨_, HS⟩ (fun HH => ?_)
       clear hK K
       refine norm_ (a' := ?_) ?_ ?_
       rotate_left
       · show Act.put _ (some 7) _ = _; simp only [Act.put, List.setIfInBounds_toArray, List.set_cons_zero, List.set_cons_succ, i64_w, i32_w]; rfl
       refine dr_one 6 HT rfl (by kernel_rfl) (by decide) (fun K hK => ?_)
       refine if_wp (by rfl) ?_; refine wp_appendr q128 fl128 3 HS rfl (HS.ro gp2) rfl rfl rfl Try.underlying59 info128 rfl (by decide) (by decide) (by have := of_eq_true c106001; first | omega | (simp only [List.length_cons, List.length_nil, List.length_append, Nat.zero_add] at this ⊢; omega)) ?_; clear HS; (try clear F); intro v106999 w106999 HS; rw [← e_y106999.out] at HS; obtain ⟨B106999, d106999, rfl, m106999⟩ := HS.form 5 rfl
       replace HS : Hp noFP w _ [.box g1 [.slice Ap0 a0.f0.length cp0, .slice Ap1 a0.f1.length cp1, .slice Ap2 a0.f2.length cp2] 61, .box g2 [.slice none 0 0, .slice none 0 0, .slice none 0 0] 61, .box g3 [.slice none 0 0, .slice none 0 0, .slice none 0 0] 61, .emp, .own (Zd.slice 192 q192) t102001 [.slice B102002 t102001.length d102002], .own (Zd.slice 128 q128) y106999 [.slice B106999 y106999.length d106999]] := HS
       have F := HS.boxes; simp only [boxFacts, and_true] at F
       refine hK.out _ _ ⟨_, HS⟩ (fun HH => ?_)
       clear hK K
       refine norm_ (a' := ?_) ?_ ?_
       rotate_left
       · show Act.put _ (some 11) _ = _; simp only [Act.put, List.setIfInBounds_toArray, List.set_cons_zero, List.set_cons_succ, i64_w, i32_w]; rfl
       refine drq_of [(7, some 12)] ?_
       repeat (first | (refine drq_pure HT (v := ?_) (a' := ?_) rfl rfl (by kernel_rfl) (fun _ _ _ h => h) (.inl ⟨by rfl, ?_⟩) ?_ ?_; rotate_left; (intro w'; go_simp; with_reducible rfl); rotate_left; (simp only [Act.put, List.setIfInBounds_toArray, List.set_cons_zero, List.set_cons_succ, i64_w, i32_w]; rfl)))
       refine drq_end ?_
       refine dr_last 9 HT rfl (by kernel_rfl) (by decide) (fun K hK => ?_)
       refine if_wp (by rfl) ?_; refine wp_store 2 0 HS (seg := [.slice B102002 t102001.length d102002, .slice none 0 0, .slice B106999 y106999.length d106999]) rfl rfl rfl rfl rfl rfl (by kernel_rfl) (by simp [wrt]) (by simp [Value.oneCell']) ?_; clear HS; (try clear F); intro w109001 HS
       replace HS : Hp noFP w _ [.box g1 [.slice Ap0 a0.f0.length cp0, .slice Ap1 a0.f1.length cp1, .slice Ap2 a0.f2.length cp2] 61, .box g2 [.slice none 0 0, .slice none 0 0, .slice none 0 0] 61, .box g3 [.slice B102002 t102001.length d102002, .slice none 0 0, .slice B106999 y106999.length d106999] 61, .emp, .own (Zd.slice 192 q192) t102001 [.slice B102002 t102001.length d102002], .own (Zd.slice 128 q128) y106999 [.slice B106999 y106999.length d106999]] := HS
       have F := HS.boxes; simp only [boxFacts, and_true] at F
       refine hK.out _ _ ?_
       clear hK K
       refine norm_ ?_ (hJ (.slice B102002 t102001.length d102002, .slice B103001 0 d103001, .slice B106999 y106999.length d106999, g3) _ (HS.arr [some 0, some 1, some 4, none, some 5, some 2] (by decide)))
       simp only [putAll, Act.put, List.setIfInBounds_toArray, List.set_cons_zero, List.set_cons_succ, i64_w, i32_w]
       (try rfl)
 rintro ⟨v102002, v103001, v106999, g3⟩ w199999 HS
 obtain ⟨B102002, d102002, rfl, m102002⟩ := HS.form 2 rfl
 obtain ⟨B106999, d106999, rfl, m106999⟩ := HS.form 4 rfl
 have F := HS.boxes; simp only [boxFacts, and_true] at F
 refine norm_ (a' := ?_) ?_ ?_
 rotate_left
 · simp only [putAll, Act.put, List.setIfInBounds_toArray, List.set_cons_zero, List.set_cons_succ, i64_w, i32_w]; rfl
 refine done_ (done_of HT.out (by kernel_rfl)) ?_
 go_wp2
 replace HS := HS.nil 190 q190
 go_loopg [4] k (fun kq v_4 w' => ∃ (l20 : List S190) (v21 : Value) (x22 : Int), v_4 = .int .i64 x22 ∧ Aside0 (spec_l13Copy.l0 kq l20 x22 a0 t102001 y106999 = some r) ∧ Aside0 (kq ≤ k) ∧ Hp noFP w w' [.box g1 [.slice Ap0 a0.f0.length cp0, .slice Ap1 a0.f1.length cp1, .slice Ap2 a0.f2.length cp2] 61, .box g2 [.slice none 0 0, .slice none 0 0, .slice none 0 0] 61, .own (Zd.slice 192 q192) t102001 [.slice B102002 t102001.length d102002], .emp, .own (Zd.slice 128 q128) y106999 [.slice B106999 y106999.length d106999], .box g3 [.slice B102002 t102001.length d102002, v21, .slice B106999 y106999.length d106999] 61, .own (Zd.slice 190 q190) l20 [v21]])
 case atStart => exact ⟨_, _, _, rfl, H, ⟨Nat.le_refl _⟩, HS⟩
 case round =>
  clear HS H; (try clear F)
  obtain ⟨l20, v21, x22, rfl, H, HKk19, HS⟩ := hrel
  obtain ⟨B21, d21, rfl, m21⟩ := HS.form 6 rfl
  have F := HS.boxes; simp only [boxFacts, and_true] at F
  cases gk with
  | zero => exact absurd H.out (by simp [spec_l13Copy.l0])
  | succ k19 =>
   simp only [spec_l13Copy.l0] at H
   by_cases c24 : x22 < (a0.f1.length : Int)
   · replace H := zpos c24 H
     replace c24 := eq_true c24
     (try go_wp2)
     by_cases c305001 : 0 ≤ x22
     case neg => exact zno c305001 H
     replace H := zpos c305001 H
     replace c305001 := eq_true c305001
     by_cases c305002 : x22 < (a0.f1.length : Int)
     case neg => exact zno c305002 H
     replace H := zpos c305002 H
     replace c305002 := eq_true c305002
     obtain ⟨ad305999, B305999_5, d305999_5, rfl, e305999_0, e305999_1, e305999_2, e305999_3, e305999_4, e305999_5, e305999_6, m305999_5, y305999_5⟩ := at_T190 gp1 x22 (of_eq_true c305001) (of_eq_true c305002)
     replace H := zbind H; obtain ⟨t307001, ht307001, H⟩ := H
     by_cases c309001 : l20.length + 1 ≤ 1599289640401
     case neg => exact zno c309001 H
     replace H := zpos c309001 H
     replace c309001 := eq_true c309001
     replace H := zlets H; obtain ⟨y309999, e_y309999, H⟩ := H
     refine dr_start2 [.box g1 [.slice Ap0 a0.f0.length cp0, .slice (some ad305999) a0.f1.length cp1, .slice Ap2 a0.f2.length cp2] 61, .box g2 [.slice none 0 0, .slice none 0 0, .slice none 0 0] 61, .own (Zd.slice 192 q192) t102001 [.slice B102002 t102001.length d102002], .emp, .own (Zd.slice 128 q128) y106999 [.slice B106999 y106999.length d106999], .box g3 [.slice B102002 t102001.length d102002, .slice B21 l20.length d21, .slice B106999 y106999.length d106999] 61, .emp] [11] HS (HS.arr [some 0, some 1, some 2, none, some 4, some 5, none] (by decide)) #[false, false, false, false, false, false, false, false, false, false, false, false] (by kernel_rfl) rfl rfl spec_l13Copy.tT5 (fun w26 HT HS HH => ?_)
     (try clear F)
     refine drq_of [(0, some 20), (1, some 21), (2, some 22), (3, some 23), (4, some 24), (5, some 25)] ?_
     repeat (first | (refine drq_pure HT (v := ?_) (a' := ?_) rfl rfl (by kernel_rfl) (fun _ _ _ h => h) (.inl ⟨by rfl, ?_⟩) ?_ ?_; rotate_left; (intro w'; go_simp; with_reducible rfl); rotate_left; (simp only [Act.put, List.setIfInBounds_toArray, List.set_cons_zero, List.set_cons_succ, i64_w, i32_w]; rfl)) | (refine drq_take HT HH (v := ?_) (a' := ?_) rfl rfl (by kernel_rfl) (fun _ _ _ h => h) (.inl ⟨by rfl, ?_⟩) ?_ ?_; rotate_left; (rintro w' ⟨rs', HS'⟩; have F := HS'.boxes; simp only [boxFacts, List.cons_append, List.nil_append, and_true] at F; go_simp; with_reducible rfl); rotate_left; (simp only [Act.put, List.setIfInBounds_toArray, List.set_cons_zero, List.set_cons_succ, i64_w, i32_w]; rfl)))
     refine drq_end ?_
     refine dr_take 6 (some 26) HT HH (v := ?_) (a' := ?_) rfl rfl (by kernel_rfl) (fun _ _ _ h => h) (.inl ⟨by rfl, ?_⟩) ?_ ?_
     rotate_left
     · rintro w' ⟨rs', HS'⟩; have e305999_0 := (HS'.keepc e305999_0); have e305999_1 := (HS'.keepc e305999_1); have e305999_2 := (HS'.keepc e305999_2); have e305999_3 := (HS'.keepc e305999_3); have e305999_4 := (HS'.keepc e305999_4); have e305999_5 := (HS'.keepc e305999_5); have e305999_6 := (HS'.keepc e305999_6); go_simp; with_reducible rfl
     rotate_left
     · simp only [Act.put, List.setIfInBounds_toArray, List.set_cons_zero, List.set_cons_succ, i64_w, i32_w]; rfl
     refine dr_one 7 HT rfl (by kernel_rfl) (by decide) (fun K hK => ?_)
     refine goes_ Try.func130 (by kernel_rfl) rfl #[.agg #[.string ((rd_T190 a0.f1 x22).f0), .int .i64 ((rd_T190 a0.f1 x22).f1), .int .i64 ((rd_T190 a0.f1 x22).f2), .int .i64 ((rd_T190 a0.f1 x22).f3), .int .i64 ((rd_T190 a0.f1 x22).f4), .slice B305999_5 (rd_T190 a0.f1 x22).f5.length d305999_5, .string ((rd_T190 a0.f1 x22).f6)]] (by rfl) rfl rfl (by simp only [List.map_toArray, List.map_cons, List.map_nil]; rfl) ?_; refine (spec_l10Copy.calls ht307001.out (HS.ro y305999_5) m305999_5).mono ?_; rintro _ wt307001 ⟨v307002, rfl, HQ⟩; refine ⟨_, rfl, ?_⟩; replace HS := HS.call HQ; clear HQ; (try clear F); obtain ⟨B307002, d307002, rfl, m307002⟩ := HS.form 7 rfl
     replace HS : Hp noFP w _ [.box g1 [.slice Ap0 a0.f0.length cp0, .slice (some ad305999) a0.f1.length cp1, .slice Ap2 a0.f2.length cp2] 61, .box g2 [.slice none 0 0, .slice none 0 0, .slice none 0 0] 61, .own (Zd.slice 192 q192) t102001 [.slice B102002 t102001.length d102002], .emp, .own (Zd.slice 128 q128) y106999 [.slice B106999 y106999.length d106999], .box g3 [.slice B102002 t102001.length d102002, .slice B21 l20.length d21, .slice B106999 y106999.length d106999] 61, .own (Zd.slice 190 q190) l20 [.slice B21 l20.length d21], .own (Zd.slice 230 q230) t307001.f5 [.slice B307002 t307001.f5.length d307002]] := HS
     have F := HS.boxes; simp only [boxFacts, and_true] at F
     refine hK.out _ _ ⟨[], HS.arr [some 0, some 1, some 2, none, some 4, some 5, none] (by decide)⟩ (fun HH => ?_)
     clear hK K
     refine norm_ (a' := ?_) ?_ ?_
     rotate_left
     · show Act.put _ (some 27) _ = _; simp only [Act.put, List.setIfInBounds_toArray, List.set_cons_zero, List.set_cons_succ, i64_w, i32_w]; rfl
     refine dr_one 8 HT rfl (by kernel_rfl) (by decide) (fun K hK => ?_)
     refine if_wp (by rfl) ?_; refine wp_lit q190 [7] ([t307001] : List S190) ([.string t307001.f0, .int .i64 t307001.f1, .int .i64 t307001.f2, .int .i64 t307001.f3, .int .i64 t307001.f4, .slice B307002 t307001.f5.length d307002, .string t307001.f6] ++ []) HS (by first | (go_simp; done) | (go_simp; rfl)) rfl rfl (Nat.le_of_ble_eq_true rfl) (MadeL.cons (js1 := [7]) (c := [.string t307001.f0, .int .i64 t307001.f1, .int .i64 t307001.f2, .int .i64 t307001.f3, .int .i64 t307001.f4, .slice B307002 t307001.f5.length d307002, .string t307001.f6]) rfl (fun S hd hh => q190_pack (x := t307001) hd (hh 7 (.own (Zd.slice 230 q230) t307001.f5 [.slice B307002 t307001.f5.length d307002]) rfl) (by decide)) MadeL.nil (by decide)) ?_; clear HS; (try clear F); intro v308001 w308001 HS; obtain ⟨B308001, d308001, rfl, m308001⟩ := HS.formn 1 8 rfl rfl
     replace HS : Hp noFP w _ [.box g1 [.slice Ap0 a0.f0.length cp0, .slice (some ad305999) a0.f1.length cp1, .slice Ap2 a0.f2.length cp2] 61, .box g2 [.slice none 0 0, .slice none 0 0, .slice none 0 0] 61, .own (Zd.slice 192 q192) t102001 [.slice B102002 t102001.length d102002], .emp, .own (Zd.slice 128 q128) y106999 [.slice B106999 y106999.length d106999], .box g3 [.slice B102002 t102001.length d102002, .slice B21 l20.length d21, .slice B106999 y106999.length d106999] 61, .own (Zd.slice 190 q190) l20 [.slice B21 l20.length d21], .emp, .own (Zd.slice 190 q190) ([t307001] : List S190) [.slice B308001 1 d308001]] := HS
     have F := HS.boxes; simp only [boxFacts, and_true] at F
     refine hK.out _ _ ⟨[], HS.arr [some 0, some 1, some 2, none, some 4, some 5, none] (by decide)⟩ (fun HH => ?_)
     clear hK K
     refine norm_ (a' := ?_) ?_ ?_
     rotate_left
     · show Act.put _ (some 28) _ = _; simp only [Act.put, List.setIfInBounds_toArray, List.set_cons_zero, List.set_cons_succ, i64_w, i32_w]; rfl
     refine dr_one 9 HT rfl (by kernel_rfl) (by decide) (fun K hK => ?_)
     refine if_wp (by rfl) ?_; refine wp_append q190 6 8 HS rfl rfl (by decide) rfl rfl rfl Try.underlying58 info190 rfl (by decide) (by decide) (by have := of_eq_true c309001; first | omega | (simp only [List.length_cons, List.length_nil, List.length_append, Nat.zero_add] at this ⊢; omega)) ?_; clear HS; (try clear F); intro v309999 w309999 HS; rw [← e_y309999.out] at HS; obtain ⟨B309999, d309999, rfl, m309999⟩ := HS.form 9 rfl
     replace HS : Hp noFP w _ [.box g1 [.slice Ap0 a0.f0.length cp0, .slice (some ad305999) a0.f1.length cp1, .slice Ap2 a0.f2.length cp2] 61, .box g2 [.slice none 0 0, .slice none 0 0, .slice none 0 0] 61, .own (Zd.slice 192 q192) t102001 [.slice B102002 t102001.length d102002], .emp, .own (Zd.slice 128 q128) y106999 [.slice B106999 y106999.length d106999], .box g3 [.slice B102002 t102001.length d102002, .slice B21 l20.length d21, .slice B106999 y106999.length d106999] 61, .emp, .emp, .emp, .own (Zd.slice 190 q190) y309999 [.slice B309999 y309999.length d309999]] := HS
     have F := HS.boxes; simp only [boxFacts, and_true] at F
     refine hK.out _ _ ⟨[], HS.arr [some 0, some 1, some 2, none, some 4, some 5, none] (by decide)⟩ (fun HH => ?_)
     clear hK K
     refine norm_ (a' := ?_) ?_ ?_
     rotate_left
     · show Act.put _ (some 29) _ = _; simp only [Act.put, List.setIfInBounds_toArray, List.set_cons_zero, List.set_cons_succ, i64_w, i32_w]; rfl
     refine drq_of [(10, some 30)] ?_
     repeat (first | (refine drq_pure HT (v := ?_) (a' := ?_) rfl rfl (by kernel_rfl) (fun _ _ _ h => h) (.inl ⟨by rfl, ?_⟩) ?_ ?_; rotate_left; (intro w'; go_simp; with_reducible rfl); rotate_left; (simp only [Act.put, List.setIfInBounds_toArray, List.set_cons_zero, List.set_cons_succ, i64_w, i32_w]; rfl)))
     refine drq_end ?_
     refine dr_last 11 HT rfl (by kernel_rfl) (by decide) (fun K hK => ?_)
     refine if_wp (by rfl) ?_; refine wp_store 5 1 HS (seg := [.slice B309999 y309999.length d309999]) rfl rfl rfl rfl rfl rfl (by kernel_rfl) (by simp [wrt]) (by simp [Value.oneCell']) ?_; clear HS; (try clear F); intro w311001 HS
     replace HS : Hp noFP w _ [.box g1 [.slice Ap0 a0.f0.length cp0, .slice (some ad305999) a0.f1.length cp1, .slice Ap2 a0.f2.length cp2] 61, .box g2 [.slice none 0 0, .slice none 0 0, .slice none 0 0] 61, .own (Zd.slice 192 q192) t102001 [.slice B102002 t102001.length d102002], .emp, .own (Zd.slice 128 q128) y106999 [.slice B106999 y106999.length d106999], .box g3 [.slice B102002 t102001.length d102002, .slice B309999 y309999.length d309999, .slice B106999 y106999.length d106999] 61, .emp, .emp, .emp, .own (Zd.slice 190 q190) y309999 [.slice B309999 y309999.length d309999]] := HS
     have F := HS.boxes; simp only [boxFacts, and_true] at F
     refine hK.out _ _ ?_
     clear hK K
     refine done_ (done_of HT.out (by kernel_rfl)) ?_
     (try clear F)
     have F := HS.boxes; simp only [boxFacts, and_true] at F
     go_wp2
     go_roundg k19
     case measure => have := HKk19.out; omega
     case rel => exact ⟨_, _, _, rfl, H, ⟨by have := HKk19.out; omega⟩, HS.pick [0, 1, 2, 3, 4, 5, 9] (by decide) (by rfl)⟩
   · replace H := zneg c24 H
     replace c24 := eq_false c24
     obtain rfl := zsome H
     go_wp2_with (first | ((with_reducible refine gate_store (p := 2) rfl ?_); refine ev_store rfl 1 0 HS (seg := [.slice B102002 t102001.length d102002, .slice B21 l20.length d21, .slice B106999 y106999.length d106999]) rfl rfl rfl rfl rfl rfl (by kernel_rfl) (by simp [wrt]) (by simp [Value.oneCell']) ?_; clear HS; (try clear F); intro w28 HS; replace HS : Hp noFP w _ [.box g1 [.slice Ap0 a0.f0.length cp0, .slice Ap1 a0.f1.length cp1, .slice Ap2 a0.f2.length cp2] 61, .box g2 [.slice B102002 t102001.length d102002, .slice B21 l20.length d21, .slice B106999 y106999.length d106999] 61, .own (Zd.slice 192 q192) t102001 [.slice B102002 t102001.length d102002], .emp, .own (Zd.slice 128 q128) y106999 [.slice B106999 y106999.length d106999], .box g3 [.slice B102002 t102001.length d102002, .slice B21 l20.length d21, .slice B106999 y106999.length d106999] 61, .own (Zd.slice 190 q190) l20 [.slice B21 l20.length d21]] := HS; have F := HS.boxes; simp only [boxFacts, and_true] at F))
     exact bodyPost_ret (results_single rfl (.cell _ _ _ _ _ rfl (HS.boxAt (i := 1) rfl) Try.underlying61 rfl (by kernel_rfl) .nil)) rfl ⟨_, _, _, rfl, HS.pick [2, 6, 4] (by decide) (by rfl)⟩
end Go.Proofs.Ytoaoncnbimcdgaa.F
