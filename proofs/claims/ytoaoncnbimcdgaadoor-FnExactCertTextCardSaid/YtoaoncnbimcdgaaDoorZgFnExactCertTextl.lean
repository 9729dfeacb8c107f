/- Functions of the program and of the law, and that their calls do what is written here. -/
import Derived.Test.YtoaoncnbimcdgaaDoorZgFnExactCertTexta
import Derived.Test.YtoaoncnbimcdgaaDoorZgFnExactCertTextf
import Derived.Test.YtoaoncnbimcdgaaDoorZgFnExactCertTextg
import Derived.Test.YtoaoncnbimcdgaaDoorZgFnExactCertTextk
namespace Go.Proofs.YtoaoncnbimcdgaaDoor.F
open Go.RowKit Go.Proofs.YtoaoncnbimcdgaaDoorW.PrintWords Go.Proofs.YtoaoncnbimcdgaaDoorW.PrintLast Go.Proofs.YtoaoncnbimcdgaaDoorW.PrintMore Go.Proofs.YtoaoncnbimcdgaaDoor.Z
attribute [local go_sem] max2_int min2_int max_two min_two max_three min_three max_four min_four
set_option linter.unusedVariables false
set_option linter.unusedSimpArgs false
set_option maxRecDepth 100000
/-! ### laws_FnExactCertText: function 3 -/
def laws_FnExactCertText.f (k : Nat) (a0 : S25) : Option (Bool) := ((laws_szCert.f k a0 1048576).bind fun t3 => (if t3 < 0 then (some true) else ((laws_toCert.f k a0).bind fun t6 => ((spec_CertText.f k t6).bind fun t11 => ((laws_toCert.f k a0).bind fun t13 => ((impl_CertText.f k t13).bind fun t22 => (if t22.1.toList = t11.1.toList then (if t22.2 = t11.2 then ((laws_toCert.f k a0).bind fun t102001 => ((laws_eqCert.f k t13 t102001).bind fun t103001 => (if t103001 = true then (some true) else (some false)))) else (some false)) else (some false))))))))
def laws_FnExactCertText.T10 : Bool × List (List Nat × List Nat) := (true, [([], []), ([], []), ([1], [1]), ([0, 2, 2], [0, 2]), ([3], [3])])
theorem laws_FnExactCertText.tT10 : rtab .any (opsOf Tryd.f3 10) = laws_FnExactCertText.T10 := by kernel_rfl
set_option maxHeartbeats 16000000 in
theorem laws_FnExactCertText.calls {k : Nat} {a0 : S25} {Ap0 : Option Addr} {np0 cp0 : Nat} {Ap1 : Option Addr} {np1 cp1 : Nat} {Ap2 : Option Addr} {np2 cp2 : Nat} {mG : Int} {r : Bool} {w : World} (h : laws_FnExactCertText.f k a0 = some r) (gp0 : (Kd.int .i64).C w Ap0 np0 a0.f9) (lp0 : np0 ≤ cp0) (gp1 : Kd.string.C w Ap1 np1 a0.f10) (lp1 : np1 ≤ cp1) (gp2 : Kd.string.C w Ap2 np2 a0.f11) (lp2 : np2 ≤ cp2) (hgM : w.cell? ⟨0, 0, none⟩ = some (.int .i64 mG)) :
    Calls Tryd.prog 3 #[.agg #[.int .i64 a0.f0, .string a0.f1, .string a0.f2, .int .i64 a0.f3, .int .i64 a0.f4, .string a0.f5, .bool a0.f6, .int .i64 a0.f7, .int .i64 a0.f8, .slice Ap0 np0 cp0, .slice Ap1 np1 cp1, .slice Ap2 np2 cp2, .string a0.f12]] w (fun e w' => e = .returned (.bool r) ∧ Hp noFP w w' []) := by
 obtain rfl := C_len gp0
 obtain rfl := C_len gp1
 obtain rfl := C_len gp2
 have HS := Hp.start w
 have H := Aside0.mk h
 clear h
 unfold laws_FnExactCertText.f at H
 go_enter Tryd.func3, Tryd.ntmps3
 replace H := zbind H; obtain ⟨t3, ht3, H⟩ := H
 go_upto_if 13 with (first | ((with_reducible refine gate_dst (N := 1) rfl ?_); refine ev_box rfl HS (by first | (go_simp; done) | (go_simp; rfl)) rfl ?_; clear HS; (try clear F); intro g1 w1 HS; (try simp only [hpn, hpm] at HS); have F := HS.boxes; simp only [boxFacts, and_true] at F) | ((with_reducible refine gate_dst (N := 11) rfl ?_); refine ev_call rfl Tryd.func8 (by kernel_rfl) rfl #[.agg #[.int .i64 a0.f0, .string a0.f1, .string a0.f2, .int .i64 a0.f3, .int .i64 a0.f4, .string a0.f5, .bool a0.f6, .int .i64 a0.f7, .int .i64 a0.f8, .slice Ap0 a0.f9.length cp0, .slice Ap1 a0.f10.length cp1, .slice Ap2 a0.f11.length cp2, .string a0.f12], .int .i64 1048576] rfl (by simp only [List.map_toArray, List.map_cons, List.map_nil]; rfl) ?_; refine (laws_szCert.calls ht3.out (HS.ro gp0) lp0 (HS.ro gp1) lp1 (HS.ro gp2) lp2).mono ?_; rintro _ wt3 ⟨rfl, HQ⟩; refine ⟨_, rfl, ?_⟩; replace HS := HS.call HQ; clear HQ; (try clear F); (try simp only [hpn, hpm] at HS); have F := HS.boxes; simp only [boxFacts, and_true] at F))
 by_cases c5 : t3 < 0
 · replace H := zpos c5 H
   replace c5 := eq_true c5
   (try simp only [c5, dcn])
   obtain rfl := zsome H
   go_wp2
   go_ret
   exact ⟨rfl, HS.pick [] (by decide) (by rfl)⟩
 · replace H := zneg c5 H
   replace c5 := eq_false c5
   (try simp only [c5, dcn])
   replace H := zbind H; obtain ⟨t6, ht6, H⟩ := H
   replace H := zbind H; obtain ⟨t11, ht11, H⟩ := H
   replace H := zbind H; obtain ⟨t13, ht13, H⟩ := H
   replace H := zbind H; obtain ⟨t22, ht22, H⟩ := H
   by_cases c24 : t22.1.toList = t11.1.toList
   · replace H := zpos c24 H
     have c24a := beq_iff_eq.mpr c24
     have c24b := bne_eq_false_iff_eq.mpr c24
     clear c24
     go_upto_if 34 with (first | ((with_reducible refine gate_dst (N := 16) rfl ?_); refine ev_call rfl Tryd.func10 (by kernel_rfl) rfl #[.agg #[.int .i64 a0.f0, .string a0.f1, .string a0.f2, .int .i64 a0.f3, .int .i64 a0.f4, .string a0.f5, .bool a0.f6, .int .i64 a0.f7, .int .i64 a0.f8, .slice Ap0 a0.f9.length cp0, .slice Ap1 a0.f10.length cp1, .slice Ap2 a0.f11.length cp2, .string a0.f12]] rfl (by simp only [List.map_toArray, List.map_cons, List.map_nil]; rfl) ?_; refine (laws_toCert.calls ht6.out (HS.ro gp0) lp0 (HS.ro gp1) lp1 (HS.ro gp2) lp2).mono ?_; rintro _ wt6 ⟨v7, v8, v9, rfl, HQ⟩; refine ⟨_, rfl, ?_⟩; replace HS := HS.call HQ; clear HQ; (try clear F); obtain ⟨B7, d7, rfl, m7⟩ := HS.form 1 rfl; obtain ⟨B8, d8, rfl, m8⟩ := HS.form 2 rfl; obtain ⟨B9, d9, rfl, m9⟩ := HS.form 3 rfl; (try simp only [hpn, hpm] at HS); have F := HS.boxes; simp only [boxFacts, and_true] at F) | ((with_reducible refine gate_dst (N := 17) rfl ?_); refine ev_call rfl Tryd.func9 (by kernel_rfl) rfl #[.agg #[.int .i64 t6.f0, .string t6.f1, .string t6.f2, .int .i64 t6.f3, .int .i64 t6.f4, .string t6.f5, .bool t6.f6, .int .i64 t6.f7, .int .i64 t6.f8, .slice B7 t6.f9.length d7, .slice B8 t6.f10.length d8, .slice B9 t6.f11.length d9, .string t6.f12]] rfl (by simp only [List.map_toArray, List.map_cons, List.map_nil]; rfl) ?_; refine (spec_CertText.calls ht11.out (HS.rd 1 rfl) m7 (HS.rd 2 rfl) m8 (HS.rd 3 rfl) m9).mono ?_; rintro _ wt11 ⟨rfl, HQ⟩; refine ⟨_, rfl, ?_⟩; replace HS := HS.call HQ; clear HQ; (try clear F); (try simp only [hpn, hpm] at HS); have F := HS.boxes; simp only [boxFacts, and_true] at F) | ((with_reducible refine gate_dst (N := 21) rfl ?_); refine ev_call rfl Tryd.func10 (by kernel_rfl) rfl #[.agg #[.int .i64 a0.f0, .string a0.f1, .string a0.f2, .int .i64 a0.f3, .int .i64 a0.f4, .string a0.f5, .bool a0.f6, .int .i64 a0.f7, .int .i64 a0.f8, .slice Ap0 a0.f9.length cp0, .slice Ap1 a0.f10.length cp1, .slice Ap2 a0.f11.length cp2, .string a0.f12]] rfl (by simp only [List.map_toArray, List.map_cons, List.map_nil]; rfl) ?_; refine (laws_toCert.calls ht13.out (HS.ro gp0) lp0 (HS.ro gp1) lp1 (HS.ro gp2) lp2).mono ?_; rintro _ wt13 ⟨v14, v15, v16, rfl, HQ⟩; refine ⟨_, rfl, ?_⟩; replace HS := HS.call HQ; clear HQ; (try clear F); obtain ⟨B14, d14, rfl, m14⟩ := HS.form 4 rfl; obtain ⟨B15, d15, rfl, m15⟩ := HS.form 5 rfl; obtain ⟨B16, d16, rfl, m16⟩ := HS.form 6 rfl; (try simp only [hpn, hpm] at HS); have F := HS.boxes; simp only [boxFacts, and_true] at F) | ((with_reducible refine gate_dst (N := 6) rfl ?_); refine ev_box rfl HS (by first | (go_simp; done) | (go_simp; rfl)) rfl ?_; clear HS; (try clear F); intro g6 w6 HS; (try simp only [hpn, hpm] at HS); have F := HS.boxes; simp only [boxFacts, and_true] at F) | ((with_reducible refine gate_store (p := 6) rfl ?_); refine ev_store rfl 7 0 HS (seg := [.int .i64 t13.f0, .string t13.f1, .string t13.f2, .int .i64 t13.f3, .int .i64 t13.f4, .string t13.f5, .bool t13.f6, .int .i64 t13.f7, .int .i64 t13.f8, .slice B14 t13.f9.length d14, .slice B15 t13.f10.length d15, .slice B16 t13.f11.length d16, .string t13.f12]) rfl rfl rfl rfl rfl rfl (by kernel_rfl) (by simp [wrt]) (by simp [Value.oneCell']) ?_; clear HS; (try clear F); intro w20 HS; (try simp only [hpn, hpm] at HS); have F := HS.boxes; simp only [boxFacts, and_true] at F) | ((with_reducible refine gate_dst (N := 24) rfl ?_); refine ev_call rfl Tryd.func11 (by kernel_rfl) rfl #[.agg #[.int .i64 t13.f0, .string t13.f1, .string t13.f2, .int .i64 t13.f3, .int .i64 t13.f4, .string t13.f5, .bool t13.f6, .int .i64 t13.f7, .int .i64 t13.f8, .slice B14 t13.f9.length d14, .slice B15 t13.f10.length d15, .slice B16 t13.f11.length d16, .string t13.f12]] rfl (by simp only [List.map_toArray, List.map_cons, List.map_nil]; rfl) ?_; refine (impl_CertText.calls ht22.out (HS.rd 4 rfl) m14 (HS.rd 5 rfl) m15 (HS.rd 6 rfl) m16 (HS.keepc hgM)).mono ?_; rintro _ wt22 ⟨rfl, HQ⟩; refine ⟨_, rfl, ?_⟩; replace HS := HS.call HQ; clear HQ; (try clear F); (try simp only [hpn, hpm] at HS); have F := HS.boxes; simp only [boxFacts, and_true] at F))
     by_cases c25 : t22.2 = t11.2
     · replace H := zpos c25 H
       have c25a := beq_iff_eq.mpr c25
       have c25b := bne_eq_false_iff_eq.mpr c25
       clear c25
       (try simp only [c25a, c25b, dcn])
       (try go_wp2)
       replace H := zbind H; obtain ⟨t102001, ht102001, H⟩ := H
       replace H := zbind H; obtain ⟨t103001, ht103001, H⟩ := H
       refine dr_start [] HS #[false, false, false, false, false] (by kernel_rfl) rfl rfl laws_FnExactCertText.tT10 (fun w27 HT HS HH => ?_)
       (try clear F)
       refine drq_of [(0, some 35), (1, some 36)] ?_
       repeat (first | (refine drq_take HT HH (v := ?_) (a' := ?_) rfl rfl (by kernel_rfl) (fun _ _ _ h => h) (.inl ⟨by rfl, ?_⟩) ?_ ?_; rotate_left; (rintro w' ⟨rs', HS'⟩; have F := HS'.boxes; simp only [boxFacts, List.cons_append, List.nil_append, and_true] at F; go_simp; with_reducible rfl); rotate_left; (simp only [Act.put, List.setIfInBounds_toArray, List.set_cons_zero, List.set_cons_succ, i64_w, i32_w]; rfl)))
       refine drq_end ?_
       refine dr_one 2 HT rfl (by kernel_rfl) (by decide) (fun K hK => ?_)
       refine goes_ Tryd.func10 (by kernel_rfl) rfl #[.agg #[.int .i64 a0.f0, .string a0.f1, .string a0.f2, .int .i64 a0.f3, .int .i64 a0.f4, .string a0.f5, .bool a0.f6, .int .i64 a0.f7, .int .i64 a0.f8, .slice Ap0 a0.f9.length cp0, .slice Ap1 a0.f10.length cp1, .slice Ap2 a0.f11.length cp2, .string a0.f12]] (by rfl) rfl rfl (by simp only [List.map_toArray, List.map_cons, List.map_nil]; rfl) ?_; refine (laws_toCert.calls ht102001.out (HS.ro gp0) lp0 (HS.ro gp1) lp1 (HS.ro gp2) lp2).mono ?_; rintro _ wt102001 ⟨v102002, v102003, v102004, rfl, HQ⟩; refine ⟨_, rfl, ?_⟩; replace HS := HS.call HQ; clear HQ; (try clear F); obtain ⟨B102002, d102002, rfl, m102002⟩ := HS.form 8 rfl; obtain ⟨B102003, d102003, rfl, m102003⟩ := HS.form 9 rfl; obtain ⟨B102004, d102004, rfl, m102004⟩ := HS.form 10 rfl
       (try simp only [hpn, hpm] at HS)
       have F := HS.boxes; simp only [boxFacts, and_true] at F
       refine hK.out _ _ ⟨_, HS⟩ (fun HH => ?_)
       clear hK K
       refine norm_ (a' := ?_) ?_ ?_
       rotate_left
       · show Act.put _ (some 37) _ = _; simp only [Act.put, List.setIfInBounds_toArray, List.set_cons_zero, List.set_cons_succ, i64_w, i32_w]; rfl
       refine dr_one 3 HT rfl (by kernel_rfl) (by decide) (fun K hK => ?_)
       refine goes_ Tryd.func12 (by kernel_rfl) rfl #[.agg #[.int .i64 t13.f0, .string t13.f1, .string t13.f2, .int .i64 t13.f3, .int .i64 t13.f4, .string t13.f5, .bool t13.f6, .int .i64 t13.f7, .int .i64 t13.f8, .slice B14 t13.f9.length d14, .slice B15 t13.f10.length d15, .slice B16 t13.f11.length d16, .string t13.f12], .agg #[.int .i64 t102001.f0, .string t102001.f1, .string t102001.f2, .int .i64 t102001.f3, .int .i64 t102001.f4, .string t102001.f5, .bool t102001.f6, .int .i64 t102001.f7, .int .i64 t102001.f8, .slice B102002 t102001.f9.length d102002, .slice B102003 t102001.f10.length d102003, .slice B102004 t102001.f11.length d102004, .string t102001.f12]] (by rfl) rfl rfl (by simp only [List.map_toArray, List.map_cons, List.map_nil]; rfl) ?_; refine (laws_eqCert.calls ht103001.out (HS.rd 4 rfl) m14 (HS.rd 5 rfl) m15 (HS.rd 6 rfl) m16 (HS.rd 8 rfl) m102002 (HS.rd 9 rfl) m102003 (HS.rd 10 rfl) m102004).mono ?_; rintro _ wt103001 ⟨rfl, HQ⟩; refine ⟨_, rfl, ?_⟩; replace HS := HS.call HQ; clear HQ; (try clear F)
       (try simp only [hpn, hpm] at HS)
       have F := HS.boxes; simp only [boxFacts, and_true] at F
       refine hK.out _ _ ⟨_, HS⟩ (fun HH => ?_)
       clear hK K
       refine norm_ (a' := ?_) ?_ ?_
       rotate_left
       · show Act.put _ (some 38) _ = _; simp only [Act.put, List.setIfInBounds_toArray, List.set_cons_zero, List.set_cons_succ, i64_w, i32_w]; rfl
       refine drq_of [(4, some 39)] ?_
       repeat (first | (refine drq_pure HT (v := ?_) (a' := ?_) rfl rfl (by kernel_rfl) (fun _ _ _ h => h) (.inl ⟨by rfl, ?_⟩) ?_ ?_; rotate_left; (intro w'; go_simp; with_reducible rfl); rotate_left; (simp only [Act.put, List.setIfInBounds_toArray, List.set_cons_zero, List.set_cons_succ, i64_w, i32_w]; rfl)))
       refine drq_end ?_
       refine done_ (done_of HT.out (by kernel_rfl)) ?_
       (try clear F)
       have F := HS.boxes; simp only [boxFacts, and_true] at F
       by_cases c29 : t103001 = true
       · replace H := zpos c29 H
         subst c29
         (try simp only [dcn, if_true, Bool.false_eq_true, if_false])
         obtain rfl := zsome H
         go_wp2
         go_ret
         exact ⟨rfl, HS.pick [] (by decide) (by rfl)⟩
       · replace H := zneg c29 H
         replace c29 := eq_false_of_ne_true c29
         subst c29
         (try simp only [dcn, if_true, Bool.false_eq_true, if_false])
         obtain rfl := zsome H
         go_wp2
         go_ret
         exact ⟨rfl, HS.pick [] (by decide) (by rfl)⟩
     · replace H := zneg c25 H
       have c25a := beq_eq_false_iff_ne.mpr c25
       have c25b := bne_iff_ne.mpr c25
       clear c25
       (try simp only [c25a, c25b, dcn])
       obtain rfl := zsome H
       go_wp2
       go_ret
       exact ⟨rfl, HS.pick [] (by decide) (by rfl)⟩
   · replace H := zneg c24 H
     have c24a := beq_eq_false_iff_ne.mpr c24
     have c24b := bne_iff_ne.mpr c24
     clear c24
     obtain rfl := zsome H
     go_wp2_with (first | ((with_reducible refine gate_dst (N := 16) rfl ?_); refine ev_call rfl Tryd.func10 (by kernel_rfl) rfl #[.agg #[.int .i64 a0.f0, .string a0.f1, .string a0.f2, .int .i64 a0.f3, .int .i64 a0.f4, .string a0.f5, .bool a0.f6, .int .i64 a0.f7, .int .i64 a0.f8, .slice Ap0 a0.f9.length cp0, .slice Ap1 a0.f10.length cp1, .slice Ap2 a0.f11.length cp2, .string a0.f12]] rfl (by simp only [List.map_toArray, List.map_cons, List.map_nil]; rfl) ?_; refine (laws_toCert.calls ht6.out (HS.ro gp0) lp0 (HS.ro gp1) lp1 (HS.ro gp2) lp2).mono ?_; rintro _ wt6 ⟨v7, v8, v9, rfl, HQ⟩; refine ⟨_, rfl, ?_⟩; replace HS := HS.call HQ; clear HQ; (try clear F); obtain ⟨B7, d7, rfl, m7⟩ := HS.form 1 rfl; obtain ⟨B8, d8, rfl, m8⟩ := HS.form 2 rfl; obtain ⟨B9, d9, rfl, m9⟩ := HS.form 3 rfl; (try simp only [hpn, hpm] at HS); have F := HS.boxes; simp only [boxFacts, and_true] at F) | ((with_reducible refine gate_dst (N := 17) rfl ?_); refine ev_call rfl Tryd.func9 (by kernel_rfl) rfl #[.agg #[.int .i64 t6.f0, .string t6.f1, .string t6.f2, .int .i64 t6.f3, .int .i64 t6.f4, .string t6.f5, .bool t6.f6, .int .i64 t6.f7, .int .i64 t6.f8, .slice B7 t6.f9.length d7, .slice B8 t6.f10.length d8, .slice B9 t6.f11.length d9, .string t6.f12]] rfl (by simp only [List.map_toArray, List.map_cons, List.map_nil]; rfl) ?_; refine (spec_CertText.calls ht11.out (HS.rd 1 rfl) m7 (HS.rd 2 rfl) m8 (HS.rd 3 rfl) m9).mono ?_; rintro _ wt11 ⟨rfl, HQ⟩; refine ⟨_, rfl, ?_⟩; replace HS := HS.call HQ; clear HQ; (try clear F); (try simp only [hpn, hpm] at HS); have F := HS.boxes; simp only [boxFacts, and_true] at F) | ((with_reducible refine gate_dst (N := 21) rfl ?_); refine ev_call rfl Tryd.func10 (by kernel_rfl) rfl #[.agg #[.int .i64 a0.f0, .string a0.f1, .string a0.f2, .int .i64 a0.f3, .int .i64 a0.f4, .string a0.f5, .bool a0.f6, .int .i64 a0.f7, .int .i64 a0.f8, .slice Ap0 a0.f9.length cp0, .slice Ap1 a0.f10.length cp1, .slice Ap2 a0.f11.length cp2, .string a0.f12]] rfl (by simp only [List.map_toArray, List.map_cons, List.map_nil]; rfl) ?_; refine (laws_toCert.calls ht13.out (HS.ro gp0) lp0 (HS.ro gp1) lp1 (HS.ro gp2) lp2).mono ?_; rintro _ wt13 ⟨v14, v15, v16, rfl, HQ⟩; refine ⟨_, rfl, ?_⟩; replace HS := HS.call HQ; clear HQ; (try clear F); obtain ⟨B14, d14, rfl, m14⟩ := HS.form 4 rfl; obtain ⟨B15, d15, rfl, m15⟩ := HS.form 5 rfl; obtain ⟨B16, d16, rfl, m16⟩ := HS.form 6 rfl; (try simp only [hpn, hpm] at HS); have F := HS.boxes; simp only [boxFacts, and_true] at F) | ((with_reducible refine gate_dst (N := 6) rfl ?_); refine ev_box rfl HS (by first | (go_simp; done) | (go_simp; rfl)) rfl ?_; clear HS; (try clear F); intro g6 w6 HS; (try simp only [hpn, hpm] at HS); have F := HS.boxes; simp only [boxFacts, and_true] at F) | ((with_reducible refine gate_store (p := 6) rfl ?_); refine ev_store rfl 7 0 HS (seg := [.int .i64 t13.f0, .string t13.f1, .string t13.f2, .int .i64 t13.f3, .int .i64 t13.f4, .string t13.f5, .bool t13.f6, .int .i64 t13.f7, .int .i64 t13.f8, .slice B14 t13.f9.length d14, .slice B15 t13.f10.length d15, .slice B16 t13.f11.length d16, .string t13.f12]) rfl rfl rfl rfl rfl rfl (by kernel_rfl) (by simp [wrt]) (by simp [Value.oneCell']) ?_; clear HS; (try clear F); intro w20 HS; (try simp only [hpn, hpm] at HS); have F := HS.boxes; simp only [boxFacts, and_true] at F) | ((with_reducible refine gate_dst (N := 24) rfl ?_); refine ev_call rfl Tryd.func11 (by kernel_rfl) rfl #[.agg #[.int .i64 t13.f0, .string t13.f1, .string t13.f2, .int .i64 t13.f3, .int .i64 t13.f4, .string t13.f5, .bool t13.f6, .int .i64 t13.f7, .int .i64 t13.f8, .slice B14 t13.f9.length d14, .slice B15 t13.f10.length d15, .slice B16 t13.f11.length d16, .string t13.f12]] rfl (by simp only [List.map_toArray, List.map_cons, List.map_nil]; rfl) ?_; refine (impl_CertText.calls ht22.out (HS.rd 4 rfl) m14 (HS.rd 5 rfl) m15 (HS.rd 6 rfl) m16 (HS.keepc hgM)).mono ?_; rintro _ wt22 ⟨rfl, HQ⟩; refine ⟨_, rfl, ?_⟩; replace HS := HS.call HQ; clear HQ; (try clear F); (try simp only [hpn, hpm] at HS); have F := HS.boxes; simp only [boxFacts, and_true] at F))
     go_ret
     exact ⟨rfl, HS.pick [] (by decide) (by rfl)⟩
end Go.Proofs.YtoaoncnbimcdgaaDoor.F
