/- Functions of the program and of the law, and that their calls do what is written here. -/
import Derived.Test.YtoaoncnbimcdgaaZgFnExactAskNowj
import Derived.Test.YtoaoncnbimcdgaaZgFnExactAskNowk
namespace Go.Proofs.Ytoaoncnbimcdgaa.F
open Go.RowKit Go.Proofs.YtoaoncnbimcdgaaW.PrintWords Go.Proofs.YtoaoncnbimcdgaaW.PrintLast Go.Proofs.YtoaoncnbimcdgaaW.PrintMore Go.Proofs.Ytoaoncnbimcdgaa.Z
attribute [local go_sem] max2_int min2_int max_two min_two max_three min_three max_four min_four
set_option linter.unusedVariables false
set_option linter.unusedSimpArgs false
set_option maxRecDepth 100000
/-! ### impl_boolItem: function 150 -/
def impl_boolItem.f (a0 : Bool) : Option (S100) := (if a0 = true then (some (⟨1, (⟨#[255]⟩ : ByteArray), ([] : List S100)⟩ : S100)) else (some (⟨1, (⟨#[0]⟩ : ByteArray), ([] : List S100)⟩ : S100)))
set_option maxHeartbeats 16000000 in
theorem impl_boolItem.calls {a0 : Bool} {r : S100} {w : World} (h : impl_boolItem.f a0 = some r) :
    Calls Try.prog 150 #[.bool a0] w (fun e w' => ∃ v0_ : Value, e = .returned (.agg #[.int .i64 r.f0, .string r.f1, v0_]) ∧ Hp noFP w w' [.own (Zd.slice 100 q100) r.f2 [v0_]]) := by
 have HS := Hp.start w
 have H := Aside0.mk h
 clear h
 unfold impl_boolItem.f at H
 go_enter Try.func150, Try.ntmps150
 go_upto_if 3 with (first | ((with_reducible refine gate_dst (N := 2) rfl ?_); refine ev_box rfl HS (by first | (go_simp; done) | (go_simp; rfl)) rfl ?_; clear HS; (try clear F); intro g2 w2 HS; (try simp only [hpn, hpm] at HS); have F := HS.boxes; simp only [boxFacts, and_true] at F))
 by_cases c3 : a0 = true
 · replace H := zpos c3 H
   subst c3
   (try simp only [dcn, if_true, Bool.false_eq_true, if_false])
   obtain rfl := zsome H
   go_wp2_with (first | ((with_reducible refine gate_store (p := 2) rfl ?_); refine ev_store rfl 0 0 HS (seg := [.int .i64 1, .string (⟨#[255]⟩ : ByteArray), .slice none 0 0]) rfl rfl rfl rfl rfl rfl (by kernel_rfl) (by simp [wrt]) (by simp [Value.oneCell']) ?_; clear HS; (try clear F); intro w4 HS; (try simp only [hpn, hpm] at HS); have F := HS.boxes; simp only [boxFacts, and_true] at F))
   replace HS := HS.nil 100 q100
   exact bodyPost_ret (results_single rfl (.cell _ _ _ _ _ rfl (HS.boxAt (i := 0) rfl) Try.underlying100 rfl (by kernel_rfl) .nil)) rfl ⟨_, rfl, HS.pick [1] (by decide) (by rfl)⟩
 · replace H := zneg c3 H
   replace c3 := eq_false_of_ne_true c3
   subst c3
   (try simp only [dcn, if_true, Bool.false_eq_true, if_false])
   obtain rfl := zsome H
   go_wp2_with (first | ((with_reducible refine gate_store (p := 2) rfl ?_); refine ev_store rfl 0 0 HS (seg := [.int .i64 1, .string (⟨#[0]⟩ : ByteArray), .slice none 0 0]) rfl rfl rfl rfl rfl rfl (by kernel_rfl) (by simp [wrt]) (by simp [Value.oneCell']) ?_; clear HS; (try clear F); intro w6 HS; (try simp only [hpn, hpm] at HS); have F := HS.boxes; simp only [boxFacts, and_true] at F))
   replace HS := HS.nil 100 q100
   exact bodyPost_ret (results_single rfl (.cell _ _ _ _ _ rfl (HS.boxAt (i := 0) rfl) Try.underlying100 rfl (by kernel_rfl) .nil)) rfl ⟨_, rfl, HS.pick [1] (by decide) (by rfl)⟩
/-! ### impl_AskText: function 99 -/
def impl_AskText.f (k : Nat) (a0 : S79) : Option (ByteArray × Bool) := ((impl_AskOk.f k a0).bind fun t3 => (if t3 = true then ((impl_each_string_0.f k a0.f0).bind fun t102001 => ((impl_IntItem.f k a0.f1).bind fun t105001 => ((impl_IntItem.f k a0.f2).bind fun t108001 => ((impl_IntItem.f k a0.f3).bind fun t111001 => ((impl_IntItem.f k a0.f4).bind fun t114001 => ((impl_boolItem.f a0.f5).bind fun t117001 => ((impl_ListItem.f k ([t102001, t105001, t108001, t111001, t114001, t117001] : List S100)).bind fun t119001 => ((impl_ItemText.f k t119001).bind fun t120001 => (some (t120001.1, t120001.2)))))))))) else (some ((⟨#[]⟩ : ByteArray), false))))
def impl_AskText.T3 : Bool × List (List Nat × List Nat) := (true, [([], []), ([0], [0]), ([1], [1]), ([], []), ([3], [3]), ([4, 2], [4]), ([], []), ([6], [6]), ([7, 5], [7]), ([], []), ([9], [9]), ([10, 8], [10]), ([], []), ([12], [12]), ([13, 11], [13]), ([], []), ([15], [15]), ([16, 14], [16]), ([2, 5, 8, 11, 14, 17], [2, 5, 8, 11, 14, 17]), ([18, 17], [18]), ([19, 19], [19]), ([20], [20]), ([20], [20]), ([21, 20, 0, 1, 2, 3, 4, 5, 6, 7, 8, 9, 10, 11, 12, 13, 14, 15, 16, 17, 18, 19, 20, 21, 22], [21]), ([22, 23, 0, 1, 2, 3, 4, 5, 6, 7, 8, 9, 10, 11, 12, 13, 14, 15, 16, 17, 18, 19, 20, 21, 22, 23], [22])])
theorem impl_AskText.tT3 : rtab .any (opsOf Try.f99 3) = impl_AskText.T3 := by kernel_rfl
set_option maxHeartbeats 16000000 in
theorem impl_AskText.calls {k : Nat} {a0 : S79} {Ap0 : Option Addr} {np0 cp0 : Nat} {r1 : ByteArray} {r2 : Bool} {w : World} (h : impl_AskText.f k a0 = some (r1, r2)) (gp0 : Kd.string.C w Ap0 np0 a0.f0) (lp0 : np0 ≤ cp0) :
    Calls Try.prog 99 #[.agg #[.slice Ap0 np0 cp0, .int .i64 a0.f1, .int .i64 a0.f2, .int .i64 a0.f3, .int .i64 a0.f4, .bool a0.f5]] w (fun e w' => e = .returned (.tuple #[.string r1, .bool r2]) ∧ Hp noFP w w' []) := by
 obtain rfl := C_len gp0
 have HS := Hp.start w
 have H := Aside0.mk h
 clear h
 unfold impl_AskText.f at H
 go_enter Try.func99, Try.ntmps99
 replace H := zbind H; obtain ⟨t3, ht3, H⟩ := H
 go_upto_if 6 with (first | ((with_reducible refine gate_dst (N := 1) rfl ?_); refine ev_box rfl HS (by first | (go_simp; done) | (go_simp; rfl)) rfl ?_; clear HS; (try clear F); intro g1 w1 HS; (try simp only [hpn, hpm] at HS); have F := HS.boxes; simp only [boxFacts, and_true] at F) | ((with_reducible refine gate_dst (N := 5) rfl ?_); refine ev_call rfl Try.func147 (by kernel_rfl) rfl #[.agg #[.slice Ap0 a0.f0.length cp0, .int .i64 a0.f1, .int .i64 a0.f2, .int .i64 a0.f3, .int .i64 a0.f4, .bool a0.f5]] rfl (by simp only [List.map_toArray, List.map_cons, List.map_nil]; rfl) ?_; refine (impl_AskOk.calls ht3.out (HS.ro gp0) lp0).mono ?_; rintro _ wt3 ⟨rfl, HQ⟩; refine ⟨_, rfl, ?_⟩; replace HS := HS.call HQ; clear HQ; (try clear F); (try simp only [hpn, hpm] at HS); have F := HS.boxes; simp only [boxFacts, and_true] at F))
 by_cases c5 : t3 = true
 · replace H := zpos c5 H
   subst c5
   (try simp only [dcn, if_true, Bool.false_eq_true, if_false])
   (try go_wp2)
   replace H := zbind H; obtain ⟨t102001, ht102001, H⟩ := H
   replace H := zbind H; obtain ⟨t105001, ht105001, H⟩ := H
   replace H := zbind H; obtain ⟨t108001, ht108001, H⟩ := H
   replace H := zbind H; obtain ⟨t111001, ht111001, H⟩ := H
   replace H := zbind H; obtain ⟨t114001, ht114001, H⟩ := H
   replace H := zbind H; obtain ⟨t117001, ht117001, H⟩ := H
   replace H := zbind H; obtain ⟨t119001, ht119001, H⟩ := H
   replace H := zbind H; obtain ⟨t120001, ht120001, H⟩ := H
   refine dr_start [] HS #[false, false, false, false, false, false, false, false, false, false, false, false, false, false, false, false, false, false, false, false, false, false, false, false, false] (by kernel_rfl) rfl rfl impl_AskText.tT3 (fun w7 HT HS HH => ?_)
   (try clear F)
   refine drq_of [(0, some 7), (1, some 8), (3, some 10), (4, some 11), (6, some 13), (7, some 14), (9, some 16), (10, some 17), (12, some 19), (13, some 20), (15, some 22), (16, some 23)] ?_
   repeat (first | (refine drq_pure HT (v := ?_) (a' := ?_) rfl rfl (by kernel_rfl) (fun _ _ _ h => h) (.inl ⟨by rfl, ?_⟩) ?_ ?_; rotate_left; (intro w'; go_simp; with_reducible rfl); rotate_left; (simp only [Act.put, List.setIfInBounds_toArray, List.set_cons_zero, List.set_cons_succ, i64_w, i32_w]; rfl)) | (refine drq_take HT HH (v := ?_) (a' := ?_) rfl rfl (by kernel_rfl) (fun _ _ _ h => h) (.inl ⟨by rfl, ?_⟩) ?_ ?_; rotate_left; (rintro w' ⟨rs', HS'⟩; have F := HS'.boxes; simp only [boxFacts, List.cons_append, List.nil_append, and_true] at F; go_simp; with_reducible rfl); rotate_left; (simp only [Act.put, List.setIfInBounds_toArray, List.set_cons_zero, List.set_cons_succ, i64_w, i32_w]; rfl)))
   refine drq_end ?_
   refine dr_one 2 HT rfl (by kernel_rfl) (by decide) (fun K hK => ?_)
   refine goes_ Try.func148 (by kernel_rfl) rfl #[.slice Ap0 a0.f0.length cp0, .func (.func 123) #[] #[]] (by rfl) rfl rfl (by simp only [List.map_toArray, List.map_cons, List.map_nil]; rfl) ?_; refine (impl_each_string_0.calls ht102001.out (HS.ro gp0) lp0).mono ?_; rintro _ wt102001 ⟨v102002, rfl, HQ⟩; refine ⟨_, rfl, ?_⟩; replace HS := HS.call HQ; clear HQ; (try clear F); obtain ⟨B102002, d102002, rfl, m102002⟩ := HS.form 1 rfl
   (try simp only [hpn, hpm] at HS)
   have F := HS.boxes; simp only [boxFacts, and_true] at F
   refine hK.out _ _ ⟨_, HS⟩ (fun HH => ?_)
   clear hK K
   refine norm_ (a' := ?_) ?_ ?_
   rotate_left
   · show Act.put _ (some 9) _ = _; simp only [Act.put, List.setIfInBounds_toArray, List.set_cons_zero, List.set_cons_succ, i64_w, i32_w]; rfl
   refine dr_one 5 HT rfl (by kernel_rfl) (by decide) (fun K hK => ?_)
   refine goes_ Try.func149 (by kernel_rfl) rfl #[.int .i64 a0.f1] (by rfl) rfl rfl (by simp only [List.map_toArray, List.map_cons, List.map_nil]; rfl) ?_; refine (impl_IntItem.calls ht105001.out).mono ?_; rintro _ wt105001 ⟨v105002, rfl, HQ⟩; refine ⟨_, rfl, ?_⟩; replace HS := HS.call HQ; clear HQ; (try clear F); obtain ⟨B105002, d105002, rfl, m105002⟩ := HS.form 2 rfl
   (try simp only [hpn, hpm] at HS)
   have F := HS.boxes; simp only [boxFacts, and_true] at F
   refine hK.out _ _ ⟨_, HS⟩ (fun HH => ?_)
   clear hK K
   refine norm_ (a' := ?_) ?_ ?_
   rotate_left
   · show Act.put _ (some 12) _ = _; simp only [Act.put, List.setIfInBounds_toArray, List.set_cons_zero, List.set_cons_succ, i64_w, i32_w]; rfl
   refine dr_one 8 HT rfl (by kernel_rfl) (by decide) (fun K hK => ?_)
   refine goes_ Try.func149 (by kernel_rfl) rfl #[.int .i64 a0.f2] (by rfl) rfl rfl (by simp only [List.map_toArray, List.map_cons, List.map_nil]; rfl) ?_; refine (impl_IntItem.calls ht108001.out).mono ?_; rintro _ wt108001 ⟨v108002, rfl, HQ⟩; refine ⟨_, rfl, ?_⟩; replace HS := HS.call HQ; clear HQ; (try clear F); obtain ⟨B108002, d108002, rfl, m108002⟩ := HS.form 3 rfl
   (try simp only [hpn, hpm] at HS)
   have F := HS.boxes; simp only [boxFacts, and_true] at F
   refine hK.out _ _ ⟨_, HS⟩ (fun HH => ?_)
   clear hK K
   refine norm_ (a' := ?_) ?_ ?_
   rotate_left
   · show Act.put _ (some 15) _ = _; simp only [Act.put, List.setIfInBounds_toArray, List.set_cons_zero, List.set_cons_succ, i64_w, i32_w]; rfl
   refine dr_one 11 HT rfl (by kernel_rfl) (by decide) (fun K hK => ?_)
   refine goes_ Try.func149 (by kernel_rfl) rfl #[.int .i64 a0.f3] (by rfl) rfl rfl (by simp only [List.map_toArray, List.map_cons, List.map_nil]; rfl) ?_; refine (impl_IntItem.calls ht111001.out).mono ?_; rintro _ wt111001 ⟨v111002, rfl, HQ⟩; refine ⟨_, rfl, ?_⟩; replace HS := HS.call HQ; clear HQ; (try clear F); obtain ⟨B111002, d111002, rfl, m111002⟩ := HS.form 4 rfl
   (try simp only [hpn, hpm] at HS)
   have F := HS.boxes; simp only [boxFacts, and_true] at F
   refine hK.out _ _ ⟨_, HS⟩ (fun HH => ?_)
   clear hK K
   refine norm_ (a' := ?_) ?_ ?_
   rotate_left
   · show Act.put _ (some 18) _ = _; simp only [Act.put, List.setIfInBounds_toArray, List.set_cons_zero, List.set_cons_succ, i64_w, i32_w]; rfl
   refine dr_one 14 HT rfl (by kernel_rfl) (by decide) (fun K hK => ?_)
   refine goes_ Try.func149 (by kernel_rfl) rfl #[.int .i64 a0.f4] (by rfl) rfl rfl (by simp only [List.map_toArray, List.map_cons, List.map_nil]; rfl) ?_; refine (impl_IntItem.calls ht114001.out).mono ?_; rintro _ wt114001 ⟨v114002, rfl, HQ⟩; refine ⟨_, rfl, ?_⟩; replace HS := HS.call HQ; clear HQ; (try clear F); obtain ⟨B114002, d114002, rfl, m114002⟩ := HS.form 5 rfl
   (try simp only [hpn, hpm] at HS)
   have F := HS.boxes; simp only [boxFacts, and_true] at F
   refine hK.out _ _ ⟨_, HS⟩ (fun HH => ?_)
   clear hK K
   refine norm_ (a' := ?_) ?_ ?_
   rotate_left
   · show Act.put _ (some 21) _ = _; simp only [Act.put, List.setIfInBounds_toArray, List.set_cons_zero, List.set_cons_succ, i64_w, i32_w]; rfl
   refine dr_one 17 HT rfl (by kernel_rfl) (by decide) (fun K hK => ?_)
   refine goes_ Try.func150 (by kernel_rfl) rfl #[.bool a0.f5] (by rfl) rfl rfl (by simp only [List.map_toArray, List.map_cons, List.map_nil]; rfl) ?_; refine (impl_boolItem.calls ht117001.out).mono ?_; rintro _ wt117001 ⟨v117002, rfl, HQ⟩; refine ⟨_, rfl, ?_⟩; replace HS := HS.call HQ; clear HQ; (try clear F); obtain ⟨B117002, d117002, rfl, m117002⟩ := HS.form 6 rfl
   (try simp only [hpn, hpm] at HS)
   have F := HS.boxes; simp only [boxFacts, and_true] at F
   refine hK.out _ _ ⟨_, HS⟩ (fun HH => ?_)
   clear hK K
   refine norm_ (a' := ?_) ?_ ?_
   rotate_left
   · show Act.put _ (some 24) _ = _; simp only [Act.put, List.setIfInBounds_toArray, List.set_cons_zero, List.set_cons_succ, i64_w, i32_w]; rfl
   refine dr_one 18 HT rfl (by kernel_rfl) (by decide) (fun K hK => ?_)
   refine if_wp (by rfl) ?_; refine wp_lit q100 [1, 2, 3, 4, 5, 6] ([t102001, t105001, t108001, t111001, t114001, t117001] : List S100) ([.int .i64 t102001.f0, .string t102001.f1, .slice B102002 t102001.f2.length d102002] ++ ([.int .i64 t105001.f0, .string t105001.f1, .slice B105002 t105001.f2.length d105002] ++ ([.int .i64 t108001.f0, .string t108001.f1, .slice B108002 t108001.f2.length d108002] ++ ([.int .i64 t111001.f0, .string t111001.f1, .slice B111002 t111001.f2.length d111002] ++ ([.int .i64 t114001.f0, .string t114001.f1, .slice B114002 t114001.f2.length d114002] ++ ([.int .i64 t117001.f0, .string t117001.f1, .slice B117002 t117001.f2.length d117002] ++ [])))))) HS (by first | (go_simp; done) | (go_simp; rfl)) rfl rfl (Nat.le_of_ble_eq_true rfl) (MadeL.cons (js1 := [1]) (c := [.int .i64 t102001.f0, .string t102001.f1, .slice B102002 t102001.f2.length d102002]) rfl (fun S hd hh => q100_pack (x := t102001) hd (hh 1 (.own (Zd.slice 100 q100) t102001.f2 [.slice B102002 t102001.f2.length d102002]) rfl) (by decide)) (MadeL.cons (js1 := [2]) (c := [.int .i64 t105001.f0, .string t105001.f1, .slice B105002 t105001.f2.length d105002]) rfl (fun S hd hh => q100_pack (x := t105001) hd (hh 2 (.own (Zd.slice 100 q100) t105001.f2 [.slice B105002 t105001.f2.length d105002]) rfl) (by decide)) (MadeL.cons (js1 := [3]) (c := [.int .i64 t108001.f0, .string t108001.f1, .slice B108002 t108001.f2.length d108002]) rfl (fun S hd hh => q100_pack (x := t108001) hd (hh 3 (.own (Zd.slice 100 q100) t108001.f2 [.slice B108002 t108001.f2.length d108002]) rfl) (by decide)) (MadeL.cons (js1 := [4]) (c := [.int .i64 t111001.f0, .string t111001.f1, .slice B111002 t111001.f2.length d111002]) rfl (fun S hd hh => q100_pack (x := t111001) hd (hh 4 (.own (Zd.slice 100 q100) t111001.f2 [.slice B111002 t111001.f2.length d111002]) rfl) (by decide)) (MadeL.cons (js1 := [5]) (c := [.int .i64 t114001.f0, .string t114001.f1, .slice B114002 t114001.f2.length d114002]) rfl (fun S hd hh => q100_pack (x := t114001) hd (hh 5 (.own (Zd.slice 100 q100) t114001.f2 [.slice B114002 t114001.f2.length d114002]) rfl) (by decide)) (MadeL.cons (js1 := [6]) (c := [.int .i64 t117001.f0, .string t117001.f1, .slice B117002 t117001.f2.length d117002]) rfl (fun S hd hh => q100_pack (x := t117001) hd (hh 6 (.own (Zd.slice 100 q100) t117001.f2 [.slice B117002 t117001.f2.length d117002]) rfl) (by decide)) MadeL.nil (by decide)) (by decide)) (by decide)) (by decide)) (by decide)) (by decide)) ?_; clear HS; (try clear F); intro v118001 w118001 HS; obtain ⟨B118001, d118001, rfl, m118001⟩ := HS.formn 6 7 rfl rfl
   (try simp only [hpn, hpm] at HS)
   have F := HS.boxes; simp only [boxFacts, and_true] at F
   refine hK.out _ _ ⟨_, HS⟩ (fun HH => ?_)
   clear hK K
   refine norm_ (a' := ?_) ?_ ?_
   rotate_left
   · show Act.put _ (some 25) _ = _; simp only [Act.put, List.setIfInBounds_toArray, List.set_cons_zero, List.set_cons_succ, i64_w, i32_w]; rfl
   refine dr_one 19 HT rfl (by kernel_rfl) (by decide) (fun K hK => ?_)
   refine goes_ Try.func121 (by kernel_rfl) rfl #[.slice B118001 6 d118001] (by rfl) rfl rfl (by simp only [List.map_toArray, List.map_cons, List.map_nil]; rfl) ?_; refine (impl_ListItem.calls ht119001.out (HS.rd 7 rfl) m118001).mono ?_; rintro _ wt119001 ⟨v119002, rfl, HQ⟩; refine ⟨_, rfl, ?_⟩; replace HS := HS.call HQ; clear HQ; (try clear F); obtain ⟨B119002, d119002, rfl, m119002⟩ := HS.form 8 rfl
   (try simp only [hpn, hpm] at HS)
   have F := HS.boxes; simp only [boxFacts, and_true] at F
   refine hK.out _ _ ⟨_, HS⟩ (fun HH => ?_)
   clear hK K
   refine norm_ (a' := ?_) ?_ ?_
   rotate_left
   · show Act.put _ (some 26) _ = _; simp only [Act.put, List.setIfInBounds_toArray, List.set_cons_zero, List.set_cons_succ, i64_w, i32_w]; rfl
   refine dr_one 20 HT rfl (by kernel_rfl) (by decide) (fun K hK => ?_)
   refine goes_ Try.func118 (by kernel_rfl) rfl #[.agg #[.int .i64 t119001.f0, .string t119001.f1, .slice B119002 t119001.f2.length d119002]] (by rfl) rfl rfl (by simp only [List.map_toArray, List.map_cons, List.map_nil]; rfl) ?_; refine (impl_ItemText.calls ht120001.out (HS.rd 8 rfl) m119002).mono ?_; rintro _ wt120001 ⟨rfl, HQ⟩; refine ⟨_, rfl, ?_⟩; replace HS := HS.call HQ; clear HQ; (try clear F)
   (try simp only [hpn, hpm] at HS)
   have F := HS.boxes; simp only [boxFacts, and_true] at F
   refine hK.out _ _ ⟨_, HS⟩ (fun HH => ?_)
   clear hK K
   refine norm_ (a' := ?_) ?_ ?_
   rotate_left
   · show Act.put _ (some 27) _ = _; simp only [Act.put, List.setIfInBounds_toArray, List.set_cons_zero, List.set_cons_succ, i64_w, i32_w]; rfl
   refine drq_of [(21, some 28), (22, some 29), (23, some 2), (24, some 3)] ?_
   repeat (first | (refine drq_pure HT (v := ?_) (a' := ?_) rfl rfl (by kernel_rfl) (fun _ _ _ h => h) (.inl ⟨by rfl, ?_⟩) ?_ ?_; rotate_left; (intro w'; go_simp; with_reducible rfl); rotate_left; (simp only [Act.put, List.setIfInBounds_toArray, List.set_cons_zero, List.set_cons_succ, i64_w, i32_w]; rfl)))
   refine drq_end ?_
   refine done_ (done_of HT.out (by kernel_rfl)) ?_
   (try clear F)
   have F := HS.boxes; simp only [boxFacts, and_true] at F
   obtain ⟨rfl, rfl⟩ := zsome2 H
   go_wp2
   exact bodyPost_ret (results_list (rs := [.tmp 2, .tmp 3]) rfl (by simp) (.tmp (.tmp .nil))) rfl ⟨rfl, HS.pick [] (by decide) (by rfl)⟩
 · replace H := zneg c5 H
   replace c5 := eq_false_of_ne_true c5
   subst c5
   (try simp only [dcn, if_true, Bool.false_eq_true, if_false])
   obtain ⟨rfl, rfl⟩ := zsome2 H
   go_wp2
   exact bodyPost_ret (results_list (rs := [.tmp 2, .tmp 3]) rfl (by simp) (.tmp (.tmp .nil))) rfl ⟨rfl, HS.pick [] (by decide) (by rfl)⟩
end Go.Proofs.Ytoaoncnbimcdgaa.F
