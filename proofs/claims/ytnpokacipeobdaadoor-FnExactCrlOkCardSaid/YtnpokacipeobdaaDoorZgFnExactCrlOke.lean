/- Functions of the program and of the law, and that their calls do what is written here. -/
import Derived.Test.YtnpokacipeobdaaDoorZgFnExactCrlOka
import Derived.Test.YtnpokacipeobdaaDoorZgFnExactCrlOkb
import Derived.Test.YtnpokacipeobdaaDoorZgFnExactCrlOkc
import Derived.Test.YtnpokacipeobdaaDoorZgFnExactCrlOkd
namespace Go.Proofs.YtnpokacipeobdaaDoor.F
open Go.RowKit Go.Proofs.YtnpokacipeobdaaDoorW.PrintWords Go.Proofs.YtnpokacipeobdaaDoorW.PrintLast Go.Proofs.YtnpokacipeobdaaDoorW.PrintMore Go.Proofs.YtnpokacipeobdaaDoor.Z
attribute [local go_sem] max2_int min2_int max_two min_two max_three min_three max_four min_four
set_option linter.unusedVariables false
set_option linter.unusedSimpArgs false
set_option maxRecDepth 100000
/-! ### laws_FnExactCrlOk: function 3 -/
def laws_FnExactCrlOk.f (k : Nat) (a0 : S24) : Option (Bool) := ((laws_szCrl.f a0 1048576).bind fun t3 => (if t3 < 0 then (some true) else ((laws_toCrl.f k a0).bind fun t6 => ((spec_CrlOk.f k t6).bind fun t9 => ((laws_toCrl.f k a0).bind fun t11 => ((impl_CrlOk.f k t11).bind fun t18 => (if t18 = t9 then ((laws_toCrl.f k a0).bind fun t102001 => ((laws_eqCrl.f k t11 t102001).bind fun t103001 => (if t103001 = true then (some true) else (some false)))) else (some false))))))))
def laws_FnExactCrlOk.T10 : Bool × List (List Nat × List Nat) := (true, [([], []), ([], []), ([1], [1]), ([0, 2, 2], [0, 2]), ([3], [3])])
theorem laws_FnExactCrlOk.tT10 : rtab .any (opsOf Tryd.f3 10) = laws_FnExactCrlOk.T10 := by kernel_rfl
set_option maxHeartbeats 16000000 in
theorem laws_FnExactCrlOk.calls {k : Nat} {a0 : S24} {Ap0 : Option Addr} {np0 cp0 : Nat} {mG : Int} {r : Bool} {w : World} (h : laws_FnExactCrlOk.f k a0 = some r) (gp0 : k107.C w Ap0 np0 a0.f5) (lp0 : np0 ≤ cp0) (hgM : w.cell? ⟨0, 0, none⟩ = some (.int .i64 mG)) :
    Calls Tryd.prog 3 #[.agg #[.string a0.f0, .int .i64 a0.f1, .int .i64 a0.f2, .int .i64 a0.f3, .int .i64 a0.f4, .slice Ap0 np0 cp0, .string a0.f6]] w (fun e w' => e = .returned (.bool r) ∧ Hp noFP w w' []) := by
 obtain rfl := C_len gp0
 have HS := Hp.start w
 have H := Aside0.mk h
 clear h
 unfold laws_FnExactCrlOk.f at H
 go_enter Tryd.func3, Tryd.ntmps3
 replace H := zbind H; obtain ⟨t3, ht3, H⟩ := H
 go_upto_if 11 with (first | ((with_reducible refine gate_dst (N := 1) rfl ?_); refine ev_box rfl HS (by first | (go_simp; done) | (go_simp; rfl)) rfl ?_; clear HS; (try clear F); intro g1 w1 HS; (try simp only [hpn, hpm] at HS); have F := HS.boxes; simp only [bxn] at F) | ((with_reducible refine gate_dst (N := 9) rfl ?_); refine ev_call rfl Tryd.func8 (by kernel_rfl) rfl #[.agg #[.string a0.f0, .int .i64 a0.f1, .int .i64 a0.f2, .int .i64 a0.f3, .int .i64 a0.f4, .slice Ap0 a0.f5.length cp0, .string a0.f6], .int .i64 1048576] rfl (by simp only [mpn]; rfl) ?_; refine (laws_szCrl.calls ht3.out (HS.ro gp0) lp0).mono ?_; rintro _ wt3 ⟨rfl, HQ⟩; refine ⟨_, rfl, ?_⟩; replace HS := HS.call HQ; clear HQ; (try clear F); (try simp only [hpn, hpm] at HS); have F := HS.boxes; simp only [bxn] at F))
 by_cases c5 : t3 < 0
 case pos =>
  replace H := zpos c5 H
  replace c5 := eq_true c5
  (try simp only [c5, dcn])
  obtain rfl := zsome H
  go_wp2
  go_ret
  exact ⟨rfl, HS.pick [] (by decide) (by rfl)⟩
 replace H := zneg c5 H
 replace c5 := eq_false c5
 (try simp only [c5, dcn])
 replace H := zbind H; obtain ⟨t6, ht6, H⟩ := H
 replace H := zbind H; obtain ⟨t9, ht9, H⟩ := H
 replace H := zbind H; obtain ⟨t11, ht11, H⟩ := H
 replace H := zbind H; obtain ⟨t18, ht18, H⟩ := H
 go_upto_if 21 with (first | ((with_reducible refine gate_dst (N := 13) rfl ?_); refine ev_call rfl Tryd.func10 (by kernel_rfl) rfl #[.agg #[.string a0.f0, .int .i64 a0.f1, .int .i64 a0.f2, .int .i64 a0.f3, .int .i64 a0.f4, .slice Ap0 a0.f5.length cp0, .string a0.f6]] rfl (by simp only [mpn]; rfl) ?_; refine (laws_toCrl.calls ht6.out (HS.ro gp0) lp0).mono ?_; rintro _ wt6 ⟨v7, rfl, HQ⟩; refine ⟨_, rfl, ?_⟩; replace HS := HS.call HQ; clear HQ; (try clear F); obtain ⟨B7, d7, rfl, m7⟩ := HS.form 1 rfl; (try simp only [hpn, hpm] at HS); have F := HS.boxes; simp only [bxn] at F) | ((with_reducible refine gate_dst (N := 14) rfl ?_); refine ev_call rfl Tryd.func9 (by kernel_rfl) rfl #[.agg #[.string t6.f0, .int .i64 t6.f1, .int .i64 t6.f2, .int .i64 t6.f3, .int .i64 t6.f4, .slice B7 t6.f5.length d7, .string t6.f6]] rfl (by simp only [mpn]; rfl) ?_; refine (spec_CrlOk.calls ht9.out (HS.rd 1 rfl) m7).mono ?_; rintro _ wt9 ⟨rfl, HQ⟩; refine ⟨_, rfl, ?_⟩; replace HS := HS.call HQ; clear HQ; (try clear F); (try simp only [hpn, hpm] at HS); have F := HS.boxes; simp only [bxn] at F) | ((with_reducible refine gate_dst (N := 16) rfl ?_); refine ev_call rfl Tryd.func10 (by kernel_rfl) rfl #[.agg #[.string a0.f0, .int .i64 a0.f1, .int .i64 a0.f2, .int .i64 a0.f3, .int .i64 a0.f4, .slice Ap0 a0.f5.length cp0, .string a0.f6]] rfl (by simp only [mpn]; rfl) ?_; refine (laws_toCrl.calls ht11.out (HS.ro gp0) lp0).mono ?_; rintro _ wt11 ⟨v12, rfl, HQ⟩; refine ⟨_, rfl, ?_⟩; replace HS := HS.call HQ; clear HQ; (try clear F); obtain ⟨B12, d12, rfl, m12⟩ := HS.form 2 rfl; (try simp only [hpn, hpm] at HS); have F := HS.boxes; simp only [bxn] at F) | ((with_reducible refine gate_dst (N := 5) rfl ?_); refine ev_box rfl HS (by first | (go_simp; done) | (go_simp; rfl)) rfl ?_; clear HS; (try clear F); intro g5 w5 HS; (try simp only [hpn, hpm] at HS); have F := HS.boxes; simp only [bxn] at F) | ((with_reducible refine gate_store (p := 5) rfl ?_); refine ev_store rfl 3 0 HS (seg := [.string t11.f0, .int .i64 t11.f1, .int .i64 t11.f2, .int .i64 t11.f3, .int .i64 t11.f4, .slice B12 t11.f5.length d12, .string t11.f6]) rfl rfl rfl rfl rfl rfl (by kernel_rfl) (by simp [wrt]) (by simp [Value.oneCell']) ?_; clear HS; (try clear F); intro w16 HS; (try simp only [hpn, hpm] at HS); have F := HS.boxes; simp only [bxn] at F) | ((with_reducible refine gate_dst (N := 18) rfl ?_); refine ev_call rfl Tryd.func11 (by kernel_rfl) rfl #[.agg #[.string t11.f0, .int .i64 t11.f1, .int .i64 t11.f2, .int .i64 t11.f3, .int .i64 t11.f4, .slice B12 t11.f5.length d12, .string t11.f6]] rfl (by simp only [mpn]; rfl) ?_; refine (impl_CrlOk.calls ht18.out (HS.rd 2 rfl) m12 (HS.keepc hgM)).mono ?_; rintro _ wt18 ⟨rfl, HQ⟩; refine ⟨_, rfl, ?_⟩; replace HS := HS.call HQ; clear HQ; (try clear F); (try simp only [hpn, hpm] at HS); have F := HS.boxes; simp only [bxn] at F))
 by_cases c20 : t18 = t9
 case neg =>
  replace H := zneg c20 H
  have c20a := beq_eq_false_iff_ne.mpr c20
  have c20b := bne_iff_ne.mpr c20
  clear c20
  (try simp only [c20a, c20b, dcn])
  obtain rfl := zsome H
  go_wp2
  go_ret
  exact ⟨rfl, HS.pick [] (by decide) (by rfl)⟩
 replace H := zpos c20 H
 have c20a := beq_iff_eq.mpr c20
 have c20b := bne_eq_false_iff_eq.mpr c20
 clear c20
 (try simp only [c20a, c20b, dcn])
 (try go_wp2)
 replace H := zbind H; obtain ⟨t102001, ht102001, H⟩ := H
 replace H := zbind H; obtain ⟨t103001, ht103001, H⟩ := H
 refine dr_start [] HS #[false, false, false, false, false] (by kernel_rfl) rfl rfl laws_FnExactCrlOk.tT10 (fun w22 HT HS HH => ?_)
 (try clear F)
 refine drq_of [(0, some 22), (1, some 23)] ?_
 repeat (first | (refine drq_take HT HH (v := ?_) (a' := ?_) rfl rfl (by kernel_rfl) (fun _ _ _ h => h) (.inl ⟨by rfl, ?_⟩) ?_ ?_; rotate_left; (rintro w' ⟨rs', HS'⟩; have F := HS'.boxes; simp only [bxn, List.cons_append, List.nil_append] at F; go_simp; with_reducible rfl); rotate_left; (simp only [Act.put, ptn]; rfl)))
 refine drq_end ?_
 refine dr_one 2 HT rfl (by kernel_rfl) (by decide) (fun K hK => ?_)
 refine goes_ Tryd.func10 (by kernel_rfl) rfl #[.agg #[.string a0.f0, .int .i64 a0.f1, .int .i64 a0.f2, .int .i64 a0.f3, .int .i64 a0.f4, .slice Ap0 a0.f5.length cp0, .string a0.f6]] (by rfl) rfl rfl (by simp only [mpn]; rfl) ?_; refine (laws_toCrl.calls ht102001.out (HS.ro gp0) lp0).mono ?_; rintro _ wt102001 ⟨v102002, rfl, HQ⟩; refine ⟨_, rfl, ?_⟩; replace HS := HS.call HQ; clear HQ; (try clear F); obtain ⟨B102002, d102002, rfl, m102002⟩ := HS.form 4 rfl
 (try simp only [hpn, hpm] at HS)
 have F := HS.boxes; simp only [bxn] at F
 refine hK.out _ _ ⟨_, HS⟩ (fun HH => ?_)
 clear hK K
 refine norm_ (a' := ?_) ?_ ?_
 rotate_left
 · show Act.put _ (some 24) _ = _; simp only [Act.put, ptn]; rfl
 refine dr_one 3 HT rfl (by kernel_rfl) (by decide) (fun K hK => ?_)
 refine goes_ Tryd.func12 (by kernel_rfl) rfl #[.agg #[.string t11.f0, .int .i64 t11.f1, .int .i64 t11.f2, .int .i64 t11.f3, .int .i64 t11.f4, .slice B12 t11.f5.length d12, .string t11.f6], .agg #[.string t102001.f0, .int .i64 t102001.f1, .int .i64 t102001.f2, .int .i64 t102001.f3, .int .i64 t102001.f4, .slice B102002 t102001.f5.length d102002, .string t102001.f6]] (by rfl) rfl rfl (by simp only [mpn]; rfl) ?_; refine (laws_eqCrl.calls ht103001.out (HS.rd 2 rfl) m12 (HS.rd 4 rfl) m102002).mono ?_; rintro _ wt103001 ⟨rfl, HQ⟩; refine ⟨_, rfl, ?_⟩; replace HS := HS.call HQ; clear HQ; (try clear F)
 (try simp only [hpn, hpm] at HS)
 have F := HS.boxes; simp only [bxn] at F
 refine hK.out _ _ ⟨_, HS⟩ (fun HH => ?_)
 clear hK K
 refine norm_ (a' := ?_) ?_ ?_
 rotate_left
 · show Act.put _ (some 25) _ = _; simp only [Act.put, ptn]; rfl
 refine drq_of [(4, some 26)] ?_
 repeat (first | (refine drq_pure HT (v := ?_) (a' := ?_) rfl rfl (by kernel_rfl) (fun _ _ _ h => h) (.inl ⟨by rfl, ?_⟩) ?_ ?_; rotate_left; (intro w'; go_simp; with_reducible rfl); rotate_left; (simp only [Act.put, ptn]; rfl)))
 refine drq_end ?_
 refine done_ (done_of HT.out (by kernel_rfl)) ?_
 (try clear F)
 have F := HS.boxes; simp only [bxn] at F
 by_cases c24 : t103001 = true
 case pos =>
  replace H := zpos c24 H
  subst c24
  (try simp only [dcn, if_true, Bool.false_eq_true, if_false])
  obtain rfl := zsome H
  go_wp2
  go_ret
  exact ⟨rfl, HS.pick [] (by decide) (by rfl)⟩
 replace H := zneg c24 H
 replace c24 := eq_false_of_ne_true c24
 subst c24
 (try simp only [dcn, if_true, Bool.false_eq_true, if_false])
 obtain rfl := zsome H
 go_wp2
 go_ret
 exact ⟨rfl, HS.pick [] (by decide) (by rfl)⟩
end Go.Proofs.YtnpokacipeobdaaDoor.F
