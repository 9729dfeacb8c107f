/- Functions of the program and of the law, and that their calls do what is written here. -/
import Derived.Test.YtoaoncnbimcdgaaDoorZgFnExactSameWaya
namespace Go.Proofs.YtoaoncnbimcdgaaDoor.F
open Go.RowKit Go.Proofs.YtoaoncnbimcdgaaDoorW.PrintWords Go.Proofs.YtoaoncnbimcdgaaDoorW.PrintLast Go.Proofs.YtoaoncnbimcdgaaDoorW.PrintMore Go.Proofs.YtoaoncnbimcdgaaDoor.Z
attribute [local go_sem] max2_int min2_int max_two min_two max_three min_three max_four min_four
set_option linter.unusedVariables false
set_option linter.unusedSimpArgs false
set_option maxRecDepth 100000
/-! ### laws_FnExactSameWay: function 5 -/
def laws_FnExactSameWay.f (k : Nat) (a0 : S41) (a1 : S41) : Option (Bool) := ((laws_szWay.f k a0 1048576).bind fun t5 => (if t5 < 0 then (some true) else ((laws_szWay.f k a1 t5).bind fun t8 => (if t8 < 0 then (some true) else ((laws_toWay.f k a0).bind fun t101001 => ((laws_toWay.f k a1).bind fun t103001 => ((spec_SameWay.f k t101001 t103001).bind fun t104001 => ((laws_toWay.f k a0).bind fun t14 => ((laws_toWay.f k a1).bind fun t21 => ((impl_SameWay.f k t14 t21).bind fun t28 => (if t28 = t104001 then ((laws_toWay.f k a0).bind fun t202001 => ((laws_eqWay.f k t14 t202001).bind fun t203001 => (if t203001 = true then ((laws_toWay.f k a1).bind fun t302001 => ((laws_eqWay.f k t21 t302001).bind fun t303001 => (if t303001 = true then (some true) else (some false)))) else (some false)))) else (some false))))))))))))
def laws_FnExactSameWay.T8 : Bool × List (List Nat × List Nat) := (true, [([], []), ([0], [0]), ([], []), ([2, 1], [2]), ([1, 3, 3], [1, 3]), ([4, 4, 0, 1, 2, 3, 4], [4])])
theorem laws_FnExactSameWay.tT8 : rtab .any (opsOf Tryd.f5 8) = laws_FnExactSameWay.T8 := by kernel_rfl
def laws_FnExactSameWay.T14 : Bool × List (List Nat × List Nat) := (true, [([], []), ([], []), ([1], [1]), ([0, 2, 2], [0, 2]), ([3], [3])])
theorem laws_FnExactSameWay.tT14 : rtab .any (opsOf Tryd.f5 14) = laws_FnExactSameWay.T14 := by kernel_rfl
def laws_FnExactSameWay.T16 : Bool × List (List Nat × List Nat) := (true, [([], []), ([], []), ([1], [1]), ([0, 2, 2], [0, 2]), ([3], [3])])
theorem laws_FnExactSameWay.tT16 : rtab .any (opsOf Tryd.f5 16) = laws_FnExactSameWay.T16 := by kernel_rfl
set_option maxHeartbeats 16000000 in
theorem laws_FnExactSameWay.calls {k : Nat} {a0 : S41} {a1 : S41} {Ap0 : Option Addr} {np0 cp0 : Nat} {Ap1 : Option Addr} {np1 cp1 : Nat} {mG : Int} {r : Bool} {w : World} (h : laws_FnExactSameWay.f k a0 a1 = some r) (gp0 : k25.C w Ap0 np0 a0.f1) (lp0 : np0 ≤ cp0) (gp1 : k25.C w Ap1 np1 a1.f1) (lp1 : np1 ≤ cp1) (hgM : w.cell? ⟨0, 0, none⟩ = some (.int .i64 mG)) :
    Calls Tryd.prog 5 #[.agg #[.int .i64 a0.f0, .slice Ap0 np0 cp0], .agg #[.int .i64 a1.f0, .slice Ap1 np1 cp1]] w (fun e w' => e = .returned (.bool r) ∧ Hp noFP w w' []) := by
 obtain rfl := C_len gp0
 obtain rfl := C_len gp1
 have HS := Hp.start w
 have H := Aside0.mk h
 clear h
 unfold laws_FnExactSameWay.f at H
 go_enter Tryd.func5, Tryd.ntmps5
 replace H := zbind H; obtain ⟨t5, ht5, H⟩ := H
 go_upto_if 14 with (first | ((with_reducible refine gate_dst (N := 2) rfl ?_); refine ev_box rfl HS (by first | (go_simp; done) | (go_simp; rfl)) rfl ?_; clear HS; (try clear F); intro g2 w2 HS; (try simp only [hpn, hpm] at HS); have F := HS.boxes; simp only [boxFacts, and_true] at F) | ((with_reducible refine gate_dst (N := 3) rfl ?_); refine ev_box rfl HS (by first | (go_simp; done) | (go_simp; rfl)) rfl ?_; clear HS; (try clear F); intro g3 w3 HS; (try simp only [hpn, hpm] at HS); have F := HS.boxes; simp only [boxFacts, and_true] at F) | ((with_reducible refine gate_dst (N := 12) rfl ?_); refine ev_call rfl Tryd.func18 (by kernel_rfl) rfl #[.agg #[.int .i64 a0.f0, .slice Ap0 a0.f1.length cp0], .int .i64 1048576] rfl (by simp only [List.map_toArray, List.map_cons, List.map_nil]; rfl) ?_; refine (laws_szWay.calls ht5.out (HS.ro gp0) lp0).mono ?_; rintro _ wt5 ⟨rfl, HQ⟩; refine ⟨_, rfl, ?_⟩; replace HS := HS.call HQ; clear HQ; (try clear F); (try simp only [hpn, hpm] at HS); have F := HS.boxes; simp only [boxFacts, and_true] at F))
 by_cases c7 : t5 < 0
 · replace H := zpos c7 H
   replace c7 := eq_true c7
   (try simp only [c7, dcn])
   obtain rfl := zsome H
   go_wp2
   go_ret
   exact ⟨rfl, HS.pick [] (by decide) (by rfl)⟩
 · replace H := zneg c7 H
   replace c7 := eq_false c7
   (try simp only [c7, dcn])
   replace H := zbind H; obtain ⟨t8, ht8, H⟩ := H
   go_upto_if 19 with (first | ((with_reducible refine gate_dst (N := 17) rfl ?_); refine ev_call rfl Tryd.func18 (by kernel_rfl) rfl #[.agg #[.int .i64 a1.f0, .slice Ap1 a1.f1.length cp1], .int .i64 t5] rfl (by simp only [List.map_toArray, List.map_cons, List.map_nil]; rfl) ?_; refine (laws_szWay.calls ht8.out (HS.ro gp1) lp1).mono ?_; rintro _ wt8 ⟨rfl, HQ⟩; refine ⟨_, rfl, ?_⟩; replace HS := HS.call HQ; clear HQ; (try clear F); (try simp only [hpn, hpm] at HS); have F := HS.boxes; simp only [boxFacts, and_true] at F))
   by_cases c10 : t8 < 0
   · replace H := zpos c10 H
     replace c10 := eq_true c10
     (try simp only [c10, dcn])
     obtain rfl := zsome H
     go_wp2
     go_ret
     exact ⟨rfl, HS.pick [] (by decide) (by rfl)⟩
   · replace H := zneg c10 H
     replace c10 := eq_false c10
     (try simp only [c10, dcn])
     (try go_wp2)
     replace H := zbind H; obtain ⟨t101001, ht101001, H⟩ := H
     replace H := zbind H; obtain ⟨t103001, ht103001, H⟩ := H
     replace H := zbind H; obtain ⟨t104001, ht104001, H⟩ := H
     refine dr_start [] HS #[false, false, false, false, false, false] (by kernel_rfl) rfl rfl laws_FnExactSameWay.tT8 (fun w12 HT HS HH => ?_)
     (try clear F)
     refine drq_of [(0, some 20), (2, some 22)] ?_
     repeat (first | (refine drq_take HT HH (v := ?_) (a' := ?_) rfl rfl (by kernel_rfl) (fun _ _ _ h => h) (.inl ⟨by rfl, ?_⟩) ?_ ?_; rotate_left; (rintro w' ⟨rs', HS'⟩; have F := HS'.boxes; simp only [boxFacts, List.cons_append, List.nil_append, and_true] at F; go_simp; with_reducible rfl); rotate_left; (simp only [Act.put, List.setIfInBounds_toArray, List.set_cons_zero, List.set_cons_succ, i64_w, i32_w]; rfl)))
     refine drq_end ?_
     refine dr_one 1 HT rfl (by kernel_rfl) (by decide) (fun K hK => ?_)
     refine goes_ Tryd.func20 (by kernel_rfl) rfl #[.agg #[.int .i64 a0.f0, .slice Ap0 a0.f1.length cp0]] (by rfl) rfl rfl (by simp only [List.map_toArray, List.map_cons, List.map_nil]; rfl) ?_; refine (laws_toWay.calls ht101001.out (HS.ro gp0) lp0).mono ?_; rintro _ wt101001 ⟨v101002, rfl, HQ⟩; refine ⟨_, rfl, ?_⟩; replace HS := HS.call HQ; clear HQ; (try clear F); obtain ⟨B101002, d101002, rfl, m101002⟩ := HS.form 2 rfl
     (try simp only [hpn, hpm] at HS)
     have F := HS.boxes; simp only [boxFacts, and_true] at F
     refine hK.out _ _ ⟨_, HS⟩ (fun HH => ?_)
     clear hK K
     refine norm_ (a' := ?_) ?_ ?_
     rotate_left
     · show Act.put _ (some 21) _ = _; simp only [Act.put, List.setIfInBounds_toArray, List.set_cons_zero, List.set_cons_succ, i64_w, i32_w]; rfl
     refine dr_one 3 HT rfl (by kernel_rfl) (by decide) (fun K hK => ?_)
     refine goes_ Tryd.func20 (by kernel_rfl) rfl #[.agg #[.int .i64 a1.f0, .slice Ap1 a1.f1.length cp1]] (by rfl) rfl rfl (by simp only [List.map_toArray, List.map_cons, List.map_nil]; rfl) ?_; refine (laws_toWay.calls ht103001.out (HS.ro gp1) lp1).mono ?_; rintro _ wt103001 ⟨v103002, rfl, HQ⟩; refine ⟨_, rfl, ?_⟩; replace HS := HS.call HQ; clear HQ; (try clear F); obtain ⟨B103002, d103002, rfl, m103002⟩ := HS.form 3 rfl
     (try simp only [hpn, hpm] at HS)
     have F := HS.boxes; simp only [boxFacts, and_true] at F
     refine hK.out _ _ ⟨_, HS⟩ (fun HH => ?_)
     clear hK K
     refine norm_ (a' := ?_) ?_ ?_
     rotate_left
     · show Act.put _ (some 23) _ = _; simp only [Act.put, List.setIfInBounds_toArray, List.set_cons_zero, List.set_cons_succ, i64_w, i32_w]; rfl
     refine dr_one 4 HT rfl (by kernel_rfl) (by decide) (fun K hK => ?_)
     refine goes_ Tryd.func19 (by kernel_rfl) rfl #[.agg #[.int .i64 t101001.f0, .slice B101002 t101001.f1.length d101002], .agg #[.int .i64 t103001.f0, .slice B103002 t103001.f1.length d103002]] (by rfl) rfl rfl (by simp only [List.map_toArray, List.map_cons, List.map_nil]; rfl) ?_; refine (spec_SameWay.calls ht104001.out (HS.rd 2 rfl) m101002 (HS.rd 3 rfl) m103002).mono ?_; rintro _ wt104001 ⟨rfl, HQ⟩; refine ⟨_, rfl, ?_⟩; replace HS := HS.call HQ; clear HQ; (try clear F)
     (try simp only [hpn, hpm] at HS)
     have F := HS.boxes; simp only [boxFacts, and_true] at F
     refine hK.out _ _ ⟨_, HS⟩ (fun HH => ?_)
     clear hK K
     refine norm_ (a' := ?_) ?_ ?_
     rotate_left
     · show Act.put _ (some 24) _ = _; simp only [Act.put, List.setIfInBounds_toArray, List.set_cons_zero, List.set_cons_succ, i64_w, i32_w]; rfl
     refine drq_of [(5, some 6)] ?_
     repeat (first | (refine drq_pure HT (v := ?_) (a' := ?_) rfl rfl (by kernel_rfl) (fun _ _ _ h => h) (.inl ⟨by rfl, ?_⟩) ?_ ?_; rotate_left; (intro w'; go_simp; with_reducible rfl); rotate_left; (simp only [Act.put, List.setIfInBounds_toArray, List.set_cons_zero, List.set_cons_succ, i64_w, i32_w]; rfl)))
     refine drq_end ?_
     refine done_ (done_of HT.out (by kernel_rfl)) ?_
     (try clear F)
     have F := HS.boxes; simp only [boxFacts, and_true] at F
     replace H := zbind H; obtain ⟨t14, ht14, H⟩ := H
     replace H := zbind H; obtain ⟨t21, ht21, H⟩ := H
     replace H := zbind H; obtain ⟨t28, ht28, H⟩ := H
     go_upto_if 34 with (first | ((with_reducible refine gate_dst (N := 26) rfl ?_); refine ev_call rfl Tryd.func20 (by kernel_rfl) rfl #[.agg #[.int .i64 a0.f0, .slice Ap0 a0.f1.length cp0]] rfl (by simp only [List.map_toArray, List.map_cons, List.map_nil]; rfl) ?_; refine (laws_toWay.calls ht14.out (HS.ro gp0) lp0).mono ?_; rintro _ wt14 ⟨v15, rfl, HQ⟩; refine ⟨_, rfl, ?_⟩; replace HS := HS.call HQ; clear HQ; (try clear F); obtain ⟨B15, d15, rfl, m15⟩ := HS.form 4 rfl; (try simp only [hpn, hpm] at HS); have F := HS.boxes; simp only [boxFacts, and_true] at F) | ((with_reducible refine gate_dst (N := 7) rfl ?_); refine ev_box rfl HS (by first | (go_simp; done) | (go_simp; rfl)) rfl ?_; clear HS; (try clear F); intro g7 w7 HS; (try simp only [hpn, hpm] at HS); have F := HS.boxes; simp only [boxFacts, and_true] at F) | ((with_reducible refine gate_store (p := 7) rfl ?_); refine ev_store rfl 5 0 HS (seg := [.int .i64 t14.f0, .slice B15 t14.f1.length d15]) rfl rfl rfl rfl rfl rfl (by kernel_rfl) (by simp [wrt]) (by simp [Value.oneCell']) ?_; clear HS; (try clear F); intro w19 HS; (try simp only [hpn, hpm] at HS); have F := HS.boxes; simp only [boxFacts, and_true] at F) | ((with_reducible refine gate_dst (N := 28) rfl ?_); refine ev_call rfl Tryd.func20 (by kernel_rfl) rfl #[.agg #[.int .i64 a1.f0, .slice Ap1 a1.f1.length cp1]] rfl (by simp only [List.map_toArray, List.map_cons, List.map_nil]; rfl) ?_; refine (laws_toWay.calls ht21.out (HS.ro gp1) lp1).mono ?_; rintro _ wt21 ⟨v22, rfl, HQ⟩; refine ⟨_, rfl, ?_⟩; replace HS := HS.call HQ; clear HQ; (try clear F); obtain ⟨B22, d22, rfl, m22⟩ := HS.form 6 rfl; (try simp only [hpn, hpm] at HS); have F := HS.boxes; simp only [boxFacts, and_true] at F) | ((with_reducible refine gate_dst (N := 8) rfl ?_); refine ev_box rfl HS (by first | (go_simp; done) | (go_simp; rfl)) rfl ?_; clear HS; (try clear F); intro g8 w8 HS; (try simp only [hpn, hpm] at HS); have F := HS.boxes; simp only [boxFacts, and_true] at F) | ((with_reducible refine gate_store (p := 8) rfl ?_); refine ev_store rfl 7 0 HS (seg := [.int .i64 t21.f0, .slice B22 t21.f1.length d22]) rfl rfl rfl rfl rfl rfl (by kernel_rfl) (by simp [wrt]) (by simp [Value.oneCell']) ?_; clear HS; (try clear F); intro w26 HS; (try simp only [hpn, hpm] at HS); have F := HS.boxes; simp only [boxFacts, and_true] at F) | ((with_reducible refine gate_dst (N := 31) rfl ?_); refine ev_call rfl Tryd.func21 (by kernel_rfl) rfl #[.agg #[.int .i64 t14.f0, .slice B15 t14.f1.length d15], .agg #[.int .i64 t21.f0, .slice B22 t21.f1.length d22]] rfl (by simp only [List.map_toArray, List.map_cons, List.map_nil]; rfl) ?_; refine (impl_SameWay.calls ht28.out (HS.rd 4 rfl) m15 (HS.rd 6 rfl) m22 (HS.keepc hgM)).mono ?_; rintro _ wt28 ⟨rfl, HQ⟩; refine ⟨_, rfl, ?_⟩; replace HS := HS.call HQ; clear HQ; (try clear F); (try simp only [hpn, hpm] at HS); have F := HS.boxes; simp only [boxFacts, and_true] at F))
     by_cases c30 : t28 = t104001
     · replace H := zpos c30 H
       have c30a := beq_iff_eq.mpr c30
       have c30b := bne_eq_false_iff_eq.mpr c30
       clear c30
       (try simp only [c30a, c30b, dcn])
       (try go_wp2)
       replace H := zbind H; obtain ⟨t202001, ht202001, H⟩ := H
       replace H := zbind H; obtain ⟨t203001, ht203001, H⟩ := H
       refine dr_start [] HS #[false, false, false, false, false] (by kernel_rfl) rfl rfl laws_FnExactSameWay.tT14 (fun w32 HT HS HH => ?_)
       (try clear F)
       refine drq_of [(0, some 35), (1, some 36)] ?_
       repeat (first | (refine drq_take HT HH (v := ?_) (a' := ?_) rfl rfl (by kernel_rfl) (fun _ _ _ h => h) (.inl ⟨by rfl, ?_⟩) ?_ ?_; rotate_left; (rintro w' ⟨rs', HS'⟩; have F := HS'.boxes; simp only [boxFacts, List.cons_append, List.nil_append, and_true] at F; go_simp; with_reducible rfl); rotate_left; (simp only [Act.put, List.setIfInBounds_toArray, List.set_cons_zero, List.set_cons_succ, i64_w, i32_w]; rfl)))
       refine drq_end ?_
       refine dr_one 2 HT rfl (by kernel_rfl) (by decide) (fun K hK => ?_)
       refine goes_ Tryd.func20 (by kernel_rfl) rfl #[.agg #[.int .i64 a0.f0, .slice Ap0 a0.f1.length cp0]] (by rfl) rfl rfl (by simp only [List.map_toArray, List.map_cons, List.map_nil]; rfl) ?_; refine (laws_toWay.calls ht202001.out (HS.ro gp0) lp0).mono ?_; rintro _ wt202001 ⟨v202002, rfl, HQ⟩; refine ⟨_, rfl, ?_⟩; replace HS := HS.call HQ; clear HQ; (try clear F); obtain ⟨B202002, d202002, rfl, m202002⟩ := HS.form 8 rfl
       (try simp only [hpn, hpm] at HS)
       have F := HS.boxes; simp only [boxFacts, and_true] at F
       refine hK.out _ _ ⟨_, HS⟩ (fun HH => ?_)
       clear hK K
       refine norm_ (a' := ?_) ?_ ?_
       rotate_left
       · show Act.put _ (some 37) _ = _; simp only [Act.put, List.setIfInBounds_toArray, List.set_cons_zero, List.set_cons_succ, i64_w, i32_w]; rfl
       refine dr_one 3 HT rfl (by kernel_rfl) (by decide) (fun K hK => ?_)
       refine goes_ Tryd.func22 (by kernel_rfl) rfl #[.agg #[.int .i64 t14.f0, .slice B15 t14.f1.length d15], .agg #[.int .i64 t202001.f0, .slice B202002 t202001.f1.length d202002]] (by rfl) rfl rfl (by simp only [List.map_toArray, List.map_cons, List.map_nil]; rfl) ?_; refine (laws_eqWay.calls ht203001.out (HS.rd 4 rfl) m15 (HS.rd 8 rfl) m202002).mono ?_; rintro _ wt203001 ⟨rfl, HQ⟩; refine ⟨_, rfl, ?_⟩; replace HS := HS.call HQ; clear HQ; (try clear F)
       (try simp only [hpn, hpm] at HS)
       have F := HS.boxes; simp only [boxFacts, and_true] at F
       refine hK.out _ _ ⟨_, HS⟩ (fun HH => ?_)
       clear hK K
       refine norm_ (a' := ?_) ?_ ?_
       rotate_left
       · show Act.put _ (some 38) _ = _; simp only [Act.put, List.setIfInBounds_toArray, List.set_cons_zero, List.set_cons_succ, i64_w, i32_w]; rfl
       refine drq_of [(4, some 39)] ?_
       repeat (first | (refine drq_pure HT (v := ?_) (a' := ?_) rfl rfl (by kernel_rfl) (fun _ _ _ h => h) (.inl ⟨by rfl, ?_⟩) ?_ ?_; rotate_left; (intro w'; go_simp; with_reducible rfl); rotate_left; (simp only [Act.put, List.setIfInBounds_toArray, List.set_cons_zero, List.set_cons_succ, i64_w, i32_w]; rfl)))
       refine drq_end ?_
       refine done_ (done_of HT.out (by kernel_rfl)) ?_
       (try clear F)
       have F := HS.boxes; simp only [boxFacts, and_true] at F
       by_cases c34 : t203001 = true
       · replace H := zpos c34 H
         subst c34
         (try simp only [dcn, if_true, Bool.false_eq_true, if_false])
         (try go_wp2)
         replace H := zbind H; obtain ⟨t302001, ht302001, H⟩ := H
         replace H := zbind H; obtain ⟨t303001, ht303001, H⟩ := H
         refine dr_start [] HS #[false, false, false, false, false] (by kernel_rfl) rfl rfl laws_FnExactSameWay.tT16 (fun w36 HT HS HH => ?_)
         (try clear F)
         refine drq_of [(0, some 40), (1, some 41)] ?_
         repeat (first | (refine drq_take HT HH (v := ?_) (a' := ?_) rfl rfl (by kernel_rfl) (fun _ _ _ h => h) (.inl ⟨by rfl, ?_⟩) ?_ ?_; rotate_left; (rintro w' ⟨rs', HS'⟩; have F := HS'.boxes; simp only [boxFacts, List.cons_append, List.nil_append, and_true] at F; go_simp; with_reducible rfl); rotate_left; (simp only [Act.put, List.setIfInBounds_toArray, List.set_cons_zero, List.set_cons_succ, i64_w, i32_w]; rfl)))
         refine drq_end ?_
         refine dr_one 2 HT rfl (by kernel_rfl) (by decide) (fun K hK => ?_)
         refine goes_ Tryd.func20 (by kernel_rfl) rfl #[.agg #[.int .i64 a1.f0, .slice Ap1 a1.f1.length cp1]] (by rfl) rfl rfl (by simp only [List.map_toArray, List.map_cons, List.map_nil]; rfl) ?_; refine (laws_toWay.calls ht302001.out (HS.ro gp1) lp1).mono ?_; rintro _ wt302001 ⟨v302002, rfl, HQ⟩; refine ⟨_, rfl, ?_⟩; replace HS := HS.call HQ; clear HQ; (try clear F); obtain ⟨B302002, d302002, rfl, m302002⟩ := HS.form 9 rfl
         (try simp only [hpn, hpm] at HS)
         have F := HS.boxes; simp only [boxFacts, and_true] at F
         refine hK.out _ _ ⟨_, HS⟩ (fun HH => ?_)
         clear hK K
         refine norm_ (a' := ?_) ?_ ?_
         rotate_left
         · show Act.put _ (some 42) _ = _; simp only [Act.put, List.setIfInBounds_toArray, List.set_cons_zero, List.set_cons_succ, i64_w, i32_w]; rfl
         refine dr_one 3 HT rfl (by kernel_rfl) (by decide) (fun K hK => ?_)
         refine goes_ Tryd.func22 (by kernel_rfl) rfl #[.agg #[.int .i64 t21.f0, .slice B22 t21.f1.length d22], .agg #[.int .i64 t302001.f0, .slice B302002 t302001.f1.length d302002]] (by rfl) rfl rfl (by simp only [List.map_toArray, List.map_cons, List.map_nil]; rfl) ?_; refine (laws_eqWay.calls ht303001.out (HS.rd 6 rfl) m22 (HS.rd 9 rfl) m302002).mono ?_; rintro _ wt303001 ⟨rfl, HQ⟩; refine ⟨_, rfl, ?_⟩; replace HS := HS.call HQ; clear HQ; (try clear F)
         (try simp only [hpn, hpm] at HS)
         have F := HS.boxes; simp only [boxFacts, and_true] at F
         refine hK.out _ _ ⟨_, HS⟩ (fun HH => ?_)
         clear hK K
         refine norm_ (a' := ?_) ?_ ?_
         rotate_left
         · show Act.put _ (some 43) _ = _; simp only [Act.put, List.setIfInBounds_toArray, List.set_cons_zero, List.set_cons_succ, i64_w, i32_w]; rfl
         refine drq_of [(4, some 44)] ?_
         repeat (first | (refine drq_pure HT (v := ?_) (a' := ?_) rfl rfl (by kernel_rfl) (fun _ _ _ h => h) (.inl ⟨by rfl, ?_⟩) ?_ ?_; rotate_left; (intro w'; go_simp; with_reducible rfl); rotate_left; (simp only [Act.put, List.setIfInBounds_toArray, List.set_cons_zero, List.set_cons_succ, i64_w, i32_w]; rfl)))
         refine drq_end ?_
         refine done_ (done_of HT.out (by kernel_rfl)) ?_
         (try clear F)
         have F := HS.boxes; simp only [boxFacts, and_true] at F
         by_cases c38 : t303001 = true
         · replace H := zpos c38 H
           subst c38
           (try simp only [dcn, if_true, Bool.false_eq_true, if_false])
           obtain rfl := zsome H
           go_wp2
           go_ret
           exact ⟨rfl, HS.pick [] (by decide) (by rfl)⟩
         · replace H := zneg c38 H
           replace c38 := eq_false_of_ne_true c38
           subst c38
           (try simp only [dcn, if_true, Bool.false_eq_true, if_false])
           obtain rfl := zsome H
           go_wp2
           go_ret
           exact ⟨rfl, HS.pick [] (by decide) (by rfl)⟩
       · replace H := zneg c34 H
         replace c34 := eq_false_of_ne_true c34
         subst c34
         (try simp only [dcn, if_true, Bool.false_eq_true, if_false])
         obtain rfl := zsome H
         go_wp2
         go_ret
         exact ⟨rfl, HS.pick [] (by decide) (by rfl)⟩
     · replace H := zneg c30 H
       have c30a := beq_eq_false_iff_ne.mpr c30
       have c30b := bne_iff_ne.mpr c30
       clear c30
       (try simp only [c30a, c30b, dcn])
       obtain rfl := zsome H
       go_wp2
       go_ret
       exact ⟨rfl, HS.pick [] (by decide) (by rfl)⟩
end Go.Proofs.YtoaoncnbimcdgaaDoor.F
