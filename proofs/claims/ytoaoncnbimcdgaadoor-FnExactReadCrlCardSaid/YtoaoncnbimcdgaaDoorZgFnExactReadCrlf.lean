/- Functions of the program and of the law, and that their calls do what is written here. -/
import Derived.Test.YtoaoncnbimcdgaaDoorZgFnExactReadCrlb
import Derived.Test.YtoaoncnbimcdgaaDoorZgFnExactReadCrlc
import Derived.Test.YtoaoncnbimcdgaaDoorZgFnExactReadCrld
import Derived.Test.YtoaoncnbimcdgaaDoorZgFnExactReadCrle
namespace Go.Proofs.YtoaoncnbimcdgaaDoor.F
open Go.RowKit Go.Proofs.YtoaoncnbimcdgaaDoorW.PrintWords Go.Proofs.YtoaoncnbimcdgaaDoorW.PrintLast Go.Proofs.YtoaoncnbimcdgaaDoorW.PrintMore Go.Proofs.YtoaoncnbimcdgaaDoor.Z
attribute [local go_sem] max2_int min2_int max_two min_two max_three min_three max_four min_four
set_option linter.unusedVariables false
set_option linter.unusedSimpArgs false
set_option maxRecDepth 100000
/-! ### spec_CrlText: function 51 -/
def spec_CrlText.f (k : Nat) (a0 : S50) : Option (ByteArray × Bool) := ((spec_CrlOk.f k a0).bind fun t3 => (if t3 = true then ((spec_l10Item.f k a0).bind fun t101001 => ((spec_l09Bytes.f a0.f6).bind fun t104001 => ((spec_ItemText.f k (⟨48, (⟨#[]⟩ : ByteArray), ([t101001, t104001] : List S65)⟩ : S65)).bind fun t107001 => (some (t107001.1, t107001.2))))) else (some ((⟨#[]⟩ : ByteArray), false))))
def spec_CrlText.T3 : Bool × List (List Nat × List Nat) := (true, [([], []), ([0], [0]), ([], []), ([2], [2]), ([3, 1], [3]), ([1, 4], [1, 4]), ([5], [5]), ([6, 4], [6]), ([7], [7]), ([7], [7]), ([8, 7, 0, 1, 2, 3, 4, 5, 6, 7, 8, 9], [8]), ([9, 10, 0, 1, 2, 3, 4, 5, 6, 7, 8, 9, 10], [9])])
theorem spec_CrlText.tT3 : rtab .any (opsOf Tryd.f51 3) = spec_CrlText.T3 := by kernel_rfl
set_option maxHeartbeats 16000000 in
theorem spec_CrlText.calls {k : Nat} {a0 : S50} {Ap0 : Option Addr} {np0 cp0 : Nat} {r1 : ByteArray} {r2 : Bool} {w : World} (h : spec_CrlText.f k a0 = some (r1, r2)) (gp0 : k82.C w Ap0 np0 a0.f5) (lp0 : np0 ≤ cp0) :
    Calls Tryd.prog 51 #[.agg #[.string a0.f0, .int .i64 a0.f1, .int .i64 a0.f2, .int .i64 a0.f3, .int .i64 a0.f4, .slice Ap0 np0 cp0, .string a0.f6]] w (fun e w' => e = .returned (.tuple #[.string r1, .bool r2]) ∧ Hp noFP w w' []) := by
 obtain rfl := C_len gp0
 have HS := Hp.start w
 have H := Aside0.mk h
 clear h
 unfold spec_CrlText.f at H
 go_enter Tryd.func51, Tryd.ntmps51
 replace H := zbind H; obtain ⟨t3, ht3, H⟩ := H
 go_upto_if 6 with (first | ((with_reducible refine gate_dst (N := 1) rfl ?_); refine ev_box rfl HS (by first | (go_simp; done) | (go_simp; rfl)) rfl ?_; clear HS; (try clear F); intro g1 w1 HS; (try simp only [hpn, hpm] at HS); have F := HS.boxes; simp only [boxFacts, and_true] at F) | ((with_reducible refine gate_dst (N := 5) rfl ?_); refine ev_call rfl Tryd.func94 (by kernel_rfl) rfl #[.agg #[.string a0.f0, .int .i64 a0.f1, .int .i64 a0.f2, .int .i64 a0.f3, .int .i64 a0.f4, .slice Ap0 a0.f5.length cp0, .string a0.f6]] rfl (by simp only [List.map_toArray, List.map_cons, List.map_nil]; rfl) ?_; refine (spec_CrlOk.calls ht3.out (HS.ro gp0) lp0).mono ?_; rintro _ wt3 ⟨rfl, HQ⟩; refine ⟨_, rfl, ?_⟩; replace HS := HS.call HQ; clear HQ; (try clear F); (try simp only [hpn, hpm] at HS); have F := HS.boxes; simp only [boxFacts, and_true] at F))
 by_cases c5 : t3 = true
 · replace H := zpos c5 H
   subst c5
   (try simp only [dcn, if_true, Bool.false_eq_true, if_false])
   (try go_wp2)
   replace H := zbind H; obtain ⟨t101001, ht101001, H⟩ := H
   replace H := zbind H; obtain ⟨t104001, ht104001, H⟩ := H
   replace H := zbind H; obtain ⟨t107001, ht107001, H⟩ := H
   refine dr_start [] HS #[false, false, false, false, false, false, false, false, false, false, false, false] (by kernel_rfl) rfl rfl spec_CrlText.tT3 (fun w7 HT HS HH => ?_)
   (try clear F)
   refine drq_of [(0, some 7), (2, some 9), (3, some 10)] ?_
   repeat (first | (refine drq_pure HT (v := ?_) (a' := ?_) rfl rfl (by kernel_rfl) (fun _ _ _ h => h) (.inl ⟨by rfl, ?_⟩) ?_ ?_; rotate_left; (intro w'; go_simp; with_reducible rfl); rotate_left; (simp only [Act.put, List.setIfInBounds_toArray, List.set_cons_zero, List.set_cons_succ, i64_w, i32_w]; rfl)) | (refine drq_take HT HH (v := ?_) (a' := ?_) rfl rfl (by kernel_rfl) (fun _ _ _ h => h) (.inl ⟨by rfl, ?_⟩) ?_ ?_; rotate_left; (rintro w' ⟨rs', HS'⟩; have F := HS'.boxes; simp only [boxFacts, List.cons_append, List.nil_append, and_true] at F; go_simp; with_reducible rfl); rotate_left; (simp only [Act.put, List.setIfInBounds_toArray, List.set_cons_zero, List.set_cons_succ, i64_w, i32_w]; rfl)))
   refine drq_end ?_
   refine dr_one 1 HT rfl (by kernel_rfl) (by decide) (fun K hK => ?_)
   refine goes_ Tryd.func95 (by kernel_rfl) rfl #[.agg #[.string a0.f0, .int .i64 a0.f1, .int .i64 a0.f2, .int .i64 a0.f3, .int .i64 a0.f4, .slice Ap0 a0.f5.length cp0, .string a0.f6]] (by rfl) rfl rfl (by simp only [List.map_toArray, List.map_cons, List.map_nil]; rfl) ?_; refine (spec_l10Item.calls ht101001.out (HS.ro gp0) lp0).mono ?_; rintro _ wt101001 ⟨v101002, rfl, HQ⟩; refine ⟨_, rfl, ?_⟩; replace HS := HS.call HQ; clear HQ; (try clear F); obtain ⟨B101002, d101002, rfl, m101002⟩ := HS.form 1 rfl
   (try simp only [hpn, hpm] at HS)
   have F := HS.boxes; simp only [boxFacts, and_true] at F
   refine hK.out _ _ ⟨_, HS⟩ (fun HH => ?_)
   clear hK K
   refine norm_ (a' := ?_) ?_ ?_
   rotate_left
   · show Act.put _ (some 8) _ = _; simp only [Act.put, List.setIfInBounds_toArray, List.set_cons_zero, List.set_cons_succ, i64_w, i32_w]; rfl
   refine dr_one 4 HT rfl (by kernel_rfl) (by decide) (fun K hK => ?_)
   refine goes_ Tryd.func37 (by kernel_rfl) rfl #[.string a0.f6] (by rfl) rfl rfl (by simp only [List.map_toArray, List.map_cons, List.map_nil]; rfl) ?_; refine (spec_l09Bytes.calls ht104001.out).mono ?_; rintro _ wt104001 ⟨v104002, rfl, HQ⟩; refine ⟨_, rfl, ?_⟩; replace HS := HS.call HQ; clear HQ; (try clear F); obtain ⟨B104002, d104002, rfl, m104002⟩ := HS.form 2 rfl
   (try simp only [hpn, hpm] at HS)
   have F := HS.boxes; simp only [boxFacts, and_true] at F
   refine hK.out _ _ ⟨_, HS⟩ (fun HH => ?_)
   clear hK K
   refine norm_ (a' := ?_) ?_ ?_
   rotate_left
   · show Act.put _ (some 11) _ = _; simp only [Act.put, List.setIfInBounds_toArray, List.set_cons_zero, List.set_cons_succ, i64_w, i32_w]; rfl
   refine dr_one 5 HT rfl (by kernel_rfl) (by decide) (fun K hK => ?_)
   refine if_wp (by rfl) ?_; refine wp_lit q65 [1, 2] ([t101001, t104001] : List S65) ([.int .i64 t101001.f0, .string t101001.f1, .slice B101002 t101001.f2.length d101002] ++ ([.int .i64 t104001.f0, .string t104001.f1, .slice B104002 t104001.f2.length d104002] ++ [])) HS (by first | (go_simp; done) | (go_simp; rfl)) rfl rfl (Nat.le_of_ble_eq_true rfl) (MadeL.cons (js1 := [1]) (c := [.int .i64 t101001.f0, .string t101001.f1, .slice B101002 t101001.f2.length d101002]) rfl (fun S hd hh => q65_pack (x := t101001) hd (hh 1 (.own (Zd.slice 65 q65) t101001.f2 [.slice B101002 t101001.f2.length d101002]) rfl) (by decide)) (MadeL.cons (js1 := [2]) (c := [.int .i64 t104001.f0, .string t104001.f1, .slice B104002 t104001.f2.length d104002]) rfl (fun S hd hh => q65_pack (x := t104001) hd (hh 2 (.own (Zd.slice 65 q65) t104001.f2 [.slice B104002 t104001.f2.length d104002]) rfl) (by decide)) MadeL.nil (by decide)) (by decide)) ?_; clear HS; (try clear F); intro v105001 w105001 HS; obtain ⟨B105001, d105001, rfl, m105001⟩ := HS.formn 2 3 rfl rfl
   (try simp only [hpn, hpm] at HS)
   have F := HS.boxes; simp only [boxFacts, and_true] at F
   refine hK.out _ _ ⟨_, HS⟩ (fun HH => ?_)
   clear hK K
   refine norm_ (a' := ?_) ?_ ?_
   rotate_left
   · show Act.put _ (some 12) _ = _; simp only [Act.put, List.setIfInBounds_toArray, List.set_cons_zero, List.set_cons_succ, i64_w, i32_w]; rfl
   refine drq_of [(6, some 13)] ?_
   repeat (first | (refine drq_pure HT (v := ?_) (a' := ?_) rfl rfl (by kernel_rfl) (fun _ _ _ h => h) (.inl ⟨by rfl, ?_⟩) ?_ ?_; rotate_left; (intro w'; go_simp; with_reducible rfl); rotate_left; (simp only [Act.put, List.setIfInBounds_toArray, List.set_cons_zero, List.set_cons_succ, i64_w, i32_w]; rfl)))
   refine drq_end ?_
   refine dr_one 7 HT rfl (by kernel_rfl) (by decide) (fun K hK => ?_)
   refine goes_ Tryd.func35 (by kernel_rfl) rfl #[.agg #[.int .i64 48, .string (⟨#[]⟩ : ByteArray), .slice B105001 2 d105001]] (by rfl) rfl rfl (by simp only [List.map_toArray, List.map_cons, List.map_nil]; rfl) ?_; refine (spec_ItemText.calls ht107001.out (HS.rd 3 rfl) m105001).mono ?_; rintro _ wt107001 ⟨rfl, HQ⟩; refine ⟨_, rfl, ?_⟩; replace HS := HS.call HQ; clear HQ; (try clear F)
   (try simp only [hpn, hpm] at HS)
   have F := HS.boxes; simp only [boxFacts, and_true] at F
   refine hK.out _ _ ⟨_, HS⟩ (fun HH => ?_)
   clear hK K
   refine norm_ (a' := ?_) ?_ ?_
   rotate_left
   · show Act.put _ (some 14) _ = _; simp only [Act.put, List.setIfInBounds_toArray, List.set_cons_zero, List.set_cons_succ, i64_w, i32_w]; rfl
   refine drq_of [(8, some 15), (9, some 16), (10, some 2), (11, some 3)] ?_
   repeat (first | (refine drq_pure HT (v := ?_) (a' := ?_) rfl rfl (by kernel_rfl) (fun _ _ _ h => h) (.inl ⟨by rfl, ?_⟩) ?_ ?_; rotate_left; (intro w'; go_simp; with_reducible rfl); rotate_left; (simp only [Act.put, List.setIfInBounds_toArray, List.set_cons_zero, List.set_cons_succ, i64_w, i32_w]; rfl)))
   refine drq_end ?_
   refine done_ (done_of HT.out (by kernel_rfl)) ?_
   (try clear F)
   have F := HS.boxes; simp only [boxFacts, and_true] at F
   obtain ⟨rfl, rfl⟩ := zsome2 H
   go_wp2
   exact bodyPost_ret (results_list (rs := [.tmp 2, .tmp 3]) rfl (by simp) (.tmp (.tmp .nil))) rfl ⟨rfl, HS.pick [] (by decide) (by rfl)⟩
 · replace H := zneg c5 H
   replace c5 := eq_false_of_ne_true c5
   subst c5
   (try simp only [dcn, if_true, Bool.false_eq_true, if_false])
   obtain ⟨rfl, rfl⟩ := zsome2 H
   go_wp2
   exact bodyPost_ret (results_list (rs := [.tmp 2, .tmp 3]) rfl (by simp) (.tmp (.tmp .nil))) rfl ⟨rfl, HS.pick [] (by decide) (by rfl)⟩
/-! ### spec_ReadCrl: function 23 -/
def spec_ReadCrl.l0 : Nat → (List S82) → Int → ByteArray → S65 × Bool → Int × Bool → Int × Bool → Int × Bool → Int × Bool → Option (S50 × Bool)
  | 0, _, _, _, _, _, _, _, _ => none
  | k + 1, l70, x72, a0, t3, t26, t32, t38, t44 => (if 5 < ((rd_T65 t3.1.f2 0).f2.length : Int) then (if x72 < ((rd_T65 ((rd_T65 t3.1.f2 0).f2) 5).f2.length : Int) then (if 0 ≤ x72 then (if x72 < ((rd_T65 ((rd_T65 t3.1.f2 0).f2) 5).f2.length : Int) then ((spec_l09IntsIn.f k (rd_T65 ((rd_T65 ((rd_T65 t3.1.f2 0).f2) 5).f2) x72)).bind fun t81 => (if (t81.length : Int) = 2 then (if 0 < (t81.length : Int) then (if 1 < (t81.length : Int) then (if l70.length + 1 ≤ 8796093022208 then (lets (l70 ++ ([(⟨(rd t81 0), (rd t81 1)⟩ : S82)] : List S82)) fun y310999 => (spec_ReadCrl.l0 k y310999 (wrap64 (x72 + 1)) a0 t3 t26 t32 t38 t44)) else none) else none) else none) else (some ((⟨(⟨#[]⟩ : ByteArray), 0, 0, 0, 0, ([] : List S82), (⟨#[]⟩ : ByteArray)⟩ : S50), false)))) else none) else none) else ((spec_CrlText.f k (⟨(rd_T65 ((rd_T65 t3.1.f2 0).f2) 0).f1, t26.1, t32.1, t38.1, t44.1, l70, (rd_T65 t3.1.f2 1).f1⟩ : S50)).bind fun t90 => (if t90.2 = true then (if t90.1.toList = a0.toList then (some ((⟨(rd_T65 ((rd_T65 t3.1.f2 0).f2) 0).f1, t26.1, t32.1, t38.1, t44.1, l70, (rd_T65 t3.1.f2 1).f1⟩ : S50), true)) else (some ((⟨(⟨#[]⟩ : ByteArray), 0, 0, 0, 0, ([] : List S82), (⟨#[]⟩ : ByteArray)⟩ : S50), false))) else (some ((⟨(⟨#[]⟩ : ByteArray), 0, 0, 0, 0, ([] : List S82), (⟨#[]⟩ : ByteArray)⟩ : S50), false))))) else none)
def spec_ReadCrl.f (k : Nat) (a0 : ByteArray) : Option (S50 × Bool) := ((spec_ReadItem.f k a0).bind fun t3 => ((spec_l09Kids.f t3.1 2).bind fun t12 => (if t3.2 = true then (if t12.2 = true then (if 0 < (t3.1.f2.length : Int) then ((spec_l09Kids.f (rd_T65 t3.1.f2 0) 6).bind fun t18 => (if t18.2 = true then (if 0 < ((rd_T65 t3.1.f2 0).f2.length : Int) then (if 1 < (t3.1.f2.length : Int) then (if 1 < ((rd_T65 t3.1.f2 0).f2.length : Int) then ((spec_IntIn.f k (rd_T65 ((rd_T65 t3.1.f2 0).f2) 1)).bind fun t26 => (if 2 < ((rd_T65 t3.1.f2 0).f2.length : Int) then ((spec_IntIn.f k (rd_T65 ((rd_T65 t3.1.f2 0).f2) 2)).bind fun t32 => (if 3 < ((rd_T65 t3.1.f2 0).f2.length : Int) then ((spec_IntIn.f k (rd_T65 ((rd_T65 t3.1.f2 0).f2) 3)).bind fun t38 => (if 4 < ((rd_T65 t3.1.f2 0).f2.length : Int) then ((spec_IntIn.f k (rd_T65 ((rd_T65 t3.1.f2 0).f2) 4)).bind fun t44 => (spec_ReadCrl.l0 k [] 0 a0 t3 t26 t32 t38 t44)) else none)) else none)) else none)) else none) else none) else none) else (some ((⟨(⟨#[]⟩ : ByteArray), 0, 0, 0, 0, ([] : List S82), (⟨#[]⟩ : ByteArray)⟩ : S50), false)))) else none) else (some ((⟨(⟨#[]⟩ : ByteArray), 0, 0, 0, 0, ([] : List S82), (⟨#[]⟩ : ByteArray)⟩ : S50), false))) else (some ((⟨(⟨#[]⟩ : ByteArray), 0, 0, 0, 0, ([] : List S82), (⟨#[]⟩ : ByteArray)⟩ : S50), false)))))
def spec_ReadCrl.T8 : Bool × List (List Nat × List Nat) := (true, [([], []), ([0], [0]), ([1], [1]), ([2], [2]), ([], []), ([4], [4]), ([5], [5]), ([6], [6]), ([3, 7], [3, 7]), ([], []), ([9, 8, 0, 1, 2, 3, 4, 5, 6, 7, 8, 9], [8, 9])])
theorem spec_ReadCrl.tT8 : rtab .any (opsOf Tryd.f23 8) = spec_ReadCrl.T8 := by kernel_rfl
def spec_ReadCrl.T19 : Bool × List (List Nat × List Nat) := (true, [([], []), ([0], [0]), ([], []), ([2], [2]), ([3], [3]), ([], []), ([5], [5]), ([6], [6]), ([4, 7], [4, 7]), ([8], [8]), ([1, 9], [1, 9]), ([0, 1, 2, 3, 4, 5, 6, 7, 8, 9, 10], []), ([11, 10, 10, 0, 1, 2, 3, 4, 5, 6, 7, 8, 9, 10], [10, 11])])
theorem spec_ReadCrl.tT19 : rtab .any (opsOf Tryd.f23 19) = spec_ReadCrl.T19 := by kernel_rfl
set_option maxHeartbeats 16000000 in
theorem spec_ReadCrl.calls {k : Nat} {a0 : ByteArray} {r1 : S50} {r2 : Bool} {w : World} (h : spec_ReadCrl.f k a0 = some (r1, r2)) :
    Calls Tryd.prog 23 #[.string a0] w (fun e w' => ∃ v0_ : Value, e = .returned (.tuple #[.agg #[.string r1.f0, .int .i64 r1.f1, .int .i64 r1.f2, .int .i64 r1.f3, .int .i64 r1.f4, v0_, .string r1.f6], .bool r2]) ∧ Hp noFP w w' [.own (Zd.slice 82 q82) r1.f5 [v0_]]) := by
 have HS := Hp.start w
 have H := Aside0.mk h
 clear h
 unfold spec_ReadCrl.f at H
 go_enter Tryd.func23, Tryd.ntmps23
 replace H := zbind H; obtain ⟨t3, ht3, H⟩ := H
 replace H := zbind H; obtain ⟨t12, ht12, H⟩ := H
 by_cases c14 : t3.2 = true
 · replace H := zpos c14 H
   go_upto_if 30 with (first | ((with_reducible refine gate_dst (N := 2) rfl ?_); refine ev_box rfl HS (by first | (go_simp; done) | (go_simp; rfl)) rfl ?_; clear HS; (try clear F); intro g2 w2 HS; (try simp only [hpn, hpm] at HS); have F := HS.boxes; simp only [boxFacts, and_true] at F) | ((with_reducible refine gate_dst (N := 17) rfl ?_); refine ev_call rfl Tryd.func47 (by kernel_rfl) rfl #[.string a0] rfl (by simp only [List.map_toArray, List.map_cons, List.map_nil]; rfl) ?_; refine (spec_ReadItem.calls ht3.out).mono ?_; rintro _ wt3 ⟨v4, rfl, HQ⟩; refine ⟨_, rfl, ?_⟩; replace HS := HS.call HQ; clear HQ; (try clear F); obtain ⟨B4, d4, rfl, m4⟩ := HS.form 1 rfl; (try simp only [hpn, hpm] at HS); have F := HS.boxes; simp only [boxFacts, and_true] at F; refine HS.lend [0] (by decide) [.box g2 [.string (⟨#[]⟩ : ByteArray), .int .i64 0, .int .i64 0, .int .i64 0, .int .i64 0, .slice none 0 0, .string (⟨#[]⟩ : ByteArray)] 50] rfl (fun A6 HL HD HA HB6 => ?_); have gb6_0 := hide_rd HD 1 rfl (by decide); (try replace hgM := HS.hidec HL hgM); replace HS := HA; have hV := hide_view A6 wt3; clear HA HD HL; (try clear F); replace HS : Hp A6 wt3 _ [.box g2 [.string (⟨#[]⟩ : ByteArray), .int .i64 0, .int .i64 0, .int .i64 0, .int .i64 0, .slice none 0 0, .string (⟨#[]⟩ : ByteArray)] 50] := HS; have F := HS.boxes; simp only [boxFacts, and_true] at F) | ((with_reducible refine gate_dst (N := 4) rfl ?_); refine ev_box rfl HS (by first | (go_simp; done) | (go_simp; rfl)) rfl ?_; clear HS; (try clear F); intro g4 w4 HS; (try simp only [hpn, hpm] at HS); have F := HS.boxes; simp only [boxFacts, and_true] at F) | ((with_reducible refine gate_store (p := 4) rfl ?_); refine ev_store rfl 1 0 HS (seg := [.int .i64 t3.1.f0, .string t3.1.f1, .slice B4 t3.1.f2.length d4]) rfl rfl rfl rfl rfl rfl (by kernel_rfl) (by simp [wrt]) (by simp [Value.oneCell']) ?_; clear HS; (try clear F); intro w10 HS; (try simp only [hpn, hpm] at HS); have F := HS.boxes; simp only [boxFacts, and_true] at F) | ((with_reducible refine gate_dst (N := 22) rfl ?_); refine ev_call rfl Tryd.func48 (by kernel_rfl) rfl #[.agg #[.int .i64 t3.1.f0, .string t3.1.f1, .slice B4 t3.1.f2.length d4], .int .i64 2] rfl (by simp only [List.map_toArray, List.map_cons, List.map_nil]; rfl) ?_; refine (spec_l09Kids.calls ht12.out (hV.ro km65 HS gb6_0) m4).mono ?_; rintro _ wt12 ⟨rfl, HQ⟩; refine ⟨_, rfl, ?_⟩; replace HS := HS.call HQ; clear HQ; (try clear F); (try simp only [hpn, hpm] at HS); have F := HS.boxes; simp only [boxFacts, and_true] at F; (try simp only [c14])))
   by_cases c15 : t12.2 = true
   · replace H := zpos c15 H
     (try simp only [c15, dcn])
     by_cases c16 : 0 < (t3.1.f2.length : Int)
     case neg => exact zno c16 H
     replace H := zpos c16 H
     replace c16 := eq_true c16
     have c16n : (0 < t3.1.f2.length) = True := eq_true (by have := of_eq_true c16; omega)
     obtain ⟨ad17, B17_2, d17_2, rfl, e17_0, e17_1, e17_2, m17_2, y17_2⟩ := at_T65 gb6_0 0 (of_eq_true (eq_true (by decide))) (of_eq_true c16)
     (try (have e17_0' := e17_0; simp only [Int.toNat_zero, Int.reduceToNat, Int.toNat_natCast, Nat.zero_mul, Nat.one_mul, Nat.zero_add, Nat.add_zero, Addr.add_zero', Addr.add_succ', Nat.reduceMul, Nat.reduceAdd] at e17_0'))
     (try (have e17_1' := e17_1; simp only [Int.toNat_zero, Int.reduceToNat, Int.toNat_natCast, Nat.zero_mul, Nat.one_mul, Nat.zero_add, Nat.add_zero, Addr.add_zero', Addr.add_succ', Nat.reduceMul, Nat.reduceAdd] at e17_1'))
     (try (have e17_2' := e17_2; simp only [Int.toNat_zero, Int.reduceToNat, Int.toNat_natCast, Nat.zero_mul, Nat.one_mul, Nat.zero_add, Nat.add_zero, Addr.add_zero', Addr.add_succ', Nat.reduceMul, Nat.reduceAdd] at e17_2'))
     have e17_0_17 := (hV.keepc HS e17_0)
     have e17_1_17 := (hV.keepc HS e17_1)
     have e17_2_17 := (hV.keepc HS e17_2)
     (try have e17_0'_17 := (hV.keepc HS e17_0'))
     (try have e17_1'_17 := (hV.keepc HS e17_1'))
     (try have e17_2'_17 := (hV.keepc HS e17_2'))
     replace H := zbind H; obtain ⟨t18, ht18, H⟩ := H
     go_upto_if 40 with (first | ((with_reducible refine gate_dst (N := 36) rfl ?_); refine ev_call rfl Tryd.func48 (by kernel_rfl) rfl #[.agg #[.int .i64 ((rd_T65 t3.1.f2 0).f0), .string ((rd_T65 t3.1.f2 0).f1), .slice B17_2 (rd_T65 t3.1.f2 0).f2.length d17_2], .int .i64 6] rfl (by simp only [List.map_toArray, List.map_cons, List.map_nil]; rfl) ?_; refine (spec_l09Kids.calls ht18.out (hV.ro km65 HS y17_2) m17_2).mono ?_; rintro _ wt18 ⟨rfl, HQ⟩; refine ⟨_, rfl, ?_⟩; replace HS := HS.call HQ; clear HQ; (try clear F); (try simp only [hpn, hpm] at HS); have F := HS.boxes; simp only [boxFacts, and_true] at F))
     by_cases c20 : t18.2 = true
     · replace H := zpos c20 H
       (try simp only [c20, dcn])
       (try go_wp2)
       by_cases c101001 : 0 < ((rd_T65 t3.1.f2 0).f2.length : Int)
       case neg => exact zno c101001 H
       replace H := zpos c101001 H
       replace c101001 := eq_true c101001
       have c101001n : (0 < (rd_T65 t3.1.f2 0).f2.length) = True := eq_true (by have := of_eq_true c101001; omega)
       obtain ⟨ad101999, B101999_2, d101999_2, rfl, e101999_0, e101999_1, e101999_2, m101999_2, y101999_2⟩ := at_T65 y17_2 0 (of_eq_true (eq_true (by decide))) (of_eq_true c101001); (try (have e101999_0' := e101999_0; simp only [Int.toNat_zero, Int.reduceToNat, Int.toNat_natCast, Nat.zero_mul, Nat.one_mul, Nat.zero_add, Nat.add_zero, Addr.add_zero', Addr.add_succ', Nat.reduceMul, Nat.reduceAdd] at e101999_0')); (try (have e101999_1' := e101999_1; simp only [Int.toNat_zero, Int.reduceToNat, Int.toNat_natCast, Nat.zero_mul, Nat.one_mul, Nat.zero_add, Nat.add_zero, Addr.add_zero', Addr.add_succ', Nat.reduceMul, Nat.reduceAdd] at e101999_1')); (try (have e101999_2' := e101999_2; simp only [Int.toNat_zero, Int.reduceToNat, Int.toNat_natCast, Nat.zero_mul, Nat.one_mul, Nat.zero_add, Nat.add_zero, Addr.add_zero', Addr.add_succ', Nat.reduceMul, Nat.reduceAdd] at e101999_2'))
       by_cases c105001 : 1 < (t3.1.f2.length : Int)
       case neg => exact zno c105001 H
       replace H := zpos c105001 H
       replace c105001 := eq_true c105001
       have c105001n : (1 < t3.1.f2.length) = True := eq_true (by have := of_eq_true c105001; omega)
       obtain ⟨ad105999, B105999_2, d105999_2, hq105999, e105999_0, e105999_1, e105999_2, m105999_2, y105999_2⟩ := at_T65 gb6_0 1 (of_eq_true (eq_true (by decide))) (of_eq_true c105001); obtain rfl := Option.some.inj hq105999; (try (have e105999_0' := e105999_0; simp only [Int.toNat_zero, Int.reduceToNat, Int.toNat_natCast, Nat.zero_mul, Nat.one_mul, Nat.zero_add, Nat.add_zero, Addr.add_zero', Addr.add_succ', Nat.reduceMul, Nat.reduceAdd] at e105999_0')); (try (have e105999_1' := e105999_1; simp only [Int.toNat_zero, Int.reduceToNat, Int.toNat_natCast, Nat.zero_mul, Nat.one_mul, Nat.zero_add, Nat.add_zero, Addr.add_zero', Addr.add_succ', Nat.reduceMul, Nat.reduceAdd] at e105999_1')); (try (have e105999_2' := e105999_2; simp only [Int.toNat_zero, Int.reduceToNat, Int.toNat_natCast, Nat.zero_mul, Nat.one_mul, Nat.zero_add, Nat.add_zero, Addr.add_zero', Addr.add_succ', Nat.reduceMul, Nat.reduceAdd] at e105999_2'))
       refine dr_start [10] HS #[false, false, false, false, false, false, false, false, false, false, false] (by kernel_rfl) rfl rfl spec_ReadCrl.tT8 (fun w22 HT HS HH => ?_)
       (try clear F)
       refine drq_of [(0, some 42), (1, some 43), (2, some 44)] ?_
       repeat (first | (refine drq_pure HT (v := ?_) (a' := ?_) rfl rfl (by kernel_rfl) (fun _ _ _ h => h) (.inl ⟨by rfl, ?_⟩) ?_ ?_; rotate_left; (intro w'; go_simp; with_reducible rfl); rotate_left; (simp only [Act.put, List.setIfInBounds_toArray, List.set_cons_zero, List.set_cons_succ, i64_w, i32_w]; rfl)))
       refine drq_end ?_
       refine dr_take 3 (some 45) HT HH (v := ?_) (a' := ?_) rfl rfl (by kernel_rfl) (fun _ _ _ h => h) (.inl ⟨by rfl, ?_⟩) ?_ ?_
       rotate_left
       · rintro w' ⟨rs', HS'⟩; have e101999_0 := (hV.keepc HS' e101999_0); have e101999_1 := (hV.keepc HS' e101999_1); have e101999_2 := (hV.keepc HS' e101999_2); (try simp only [Int.toNat_zero, Int.reduceToNat, Int.toNat_natCast, Nat.zero_mul, Nat.one_mul, Nat.zero_add, Nat.add_zero, Addr.add_zero', Addr.add_succ', Nat.reduceMul, Nat.reduceAdd] at e101999_0 e101999_1 e101999_2); go_simp; with_reducible rfl
       rotate_left
       · simp only [Act.put, List.setIfInBounds_toArray, List.set_cons_zero, List.set_cons_succ, i64_w, i32_w]; rfl
       refine drq_of [(4, some 46), (5, some 47), (6, some 48)] ?_
       repeat (first | (refine drq_pure HT (v := ?_) (a' := ?_) rfl rfl (by kernel_rfl) (fun _ _ _ h => h) (.inl ⟨by rfl, ?_⟩) ?_ ?_; rotate_left; (intro w'; go_simp; with_reducible rfl); rotate_left; (simp only [Act.put, List.setIfInBounds_toArray, List.set_cons_zero, List.set_cons_succ, i64_w, i32_w]; rfl)))
       refine drq_end ?_
       refine dr_take 7 (some 49) HT HH (v := ?_) (a' := ?_) rfl rfl (by kernel_rfl) (fun _ _ _ h => h) (.inl ⟨by rfl, ?_⟩) ?_ ?_
       rotate_left
       · rintro w' ⟨rs', HS'⟩; have e105999_0 := (hV.keepc HS' e105999_0); have e105999_1 := (hV.keepc HS' e105999_1); have e105999_2 := (hV.keepc HS' e105999_2); (try simp only [Int.toNat_zero, Int.reduceToNat, Int.toNat_natCast, Nat.zero_mul, Nat.one_mul, Nat.zero_add, Nat.add_zero, Addr.add_zero', Addr.add_succ', Nat.reduceMul, Nat.reduceAdd] at e105999_0 e105999_1 e105999_2); go_simp; with_reducible rfl
       rotate_left
       · simp only [Act.put, List.setIfInBounds_toArray, List.set_cons_zero, List.set_cons_succ, i64_w, i32_w]; rfl
       refine drq_of [(8, some 50)] ?_
       repeat (first | (refine drq_pure HT (v := ?_) (a' := ?_) rfl rfl (by kernel_rfl) (fun _ _ _ h => h) (.inl ⟨by rfl, ?_⟩) ?_ ?_; rotate_left; (intro w'; go_simp; with_reducible rfl); rotate_left; (simp only [Act.put, List.setIfInBounds_toArray, List.set_cons_zero, List.set_cons_succ, i64_w, i32_w]; rfl)))
       refine drq_end ?_
       refine dr_one 9 HT rfl (by kernel_rfl) (by decide) (fun K hK => ?_)
       refine if_wp (by rfl) ?_; refine wp_box HS (by first | (go_simp; done) | (go_simp; rfl)) rfl ?_; clear HS; (try clear F); intro g10 w10 HS
       (try simp only [hpn, hpm] at HS)
       have F := HS.boxes; simp only [boxFacts, and_true] at F
       refine hK.out _ _ ⟨_, HS⟩ (fun HH => ?_)
       clear hK K
       refine norm_ (a' := ?_) ?_ ?_
       rotate_left
       · show Act.put _ (some 10) _ = _; simp only [Act.put, List.setIfInBounds_toArray, List.set_cons_zero, List.set_cons_succ, i64_w, i32_w, c14, c15, c20]; rfl
       refine dr_last 10 HT rfl (by kernel_rfl) (by decide) (fun K hK => ?_)
       refine if_wp (by rfl) ?_; refine wp_store 2 0 HS (seg := [.string ((rd_T65 ((rd_T65 t3.1.f2 0).f2) 0).f1), .int .i64 0, .int .i64 0, .int .i64 0, .int .i64 0, .slice none 0 0, .string ((rd_T65 t3.1.f2 1).f1)]) rfl rfl rfl rfl rfl rfl (by kernel_rfl) (by simp [wrt]) (by simp [Value.oneCell']) ?_; clear HS; (try clear F); intro w110001 HS
       (try simp only [hpn, hpm] at HS)
       have F := HS.boxes; simp only [boxFacts, and_true] at F
       refine hK.out _ _ ?_
       clear hK K
       refine done_ (done_of HT.out (by kernel_rfl)) ?_
       (try clear F)
       have F := HS.boxes; simp only [boxFacts, and_true] at F
       by_cases c24 : 1 < ((rd_T65 t3.1.f2 0).f2.length : Int)
       case neg => exact zno c24 H
       replace H := zpos c24 H
       replace c24 := eq_true c24
       have c24n : (1 < (rd_T65 t3.1.f2 0).f2.length) = True := eq_true (by have := of_eq_true c24; omega)
       obtain ⟨ad25, B25_2, d25_2, hq25, e25_0, e25_1, e25_2, m25_2, y25_2⟩ := at_T65 y17_2 1 (of_eq_true (eq_true (by decide))) (of_eq_true c24)
       obtain rfl := Option.some.inj hq25
       (try (have e25_0' := e25_0; simp only [Int.toNat_zero, Int.reduceToNat, Int.toNat_natCast, Nat.zero_mul, Nat.one_mul, Nat.zero_add, Nat.add_zero, Addr.add_zero', Addr.add_succ', Nat.reduceMul, Nat.reduceAdd] at e25_0'))
       (try (have e25_1' := e25_1; simp only [Int.toNat_zero, Int.reduceToNat, Int.toNat_natCast, Nat.zero_mul, Nat.one_mul, Nat.zero_add, Nat.add_zero, Addr.add_zero', Addr.add_succ', Nat.reduceMul, Nat.reduceAdd] at e25_1'))
       (try (have e25_2' := e25_2; simp only [Int.toNat_zero, Int.reduceToNat, Int.toNat_natCast, Nat.zero_mul, Nat.one_mul, Nat.zero_add, Nat.add_zero, Addr.add_zero', Addr.add_succ', Nat.reduceMul, Nat.reduceAdd] at e25_2'))
       have e25_0_25 := (hV.keepc HS e25_0)
       have e25_1_25 := (hV.keepc HS e25_1)
       have e25_2_25 := (hV.keepc HS e25_2)
       (try have e25_0'_25 := (hV.keepc HS e25_0'))
       (try have e25_1'_25 := (hV.keepc HS e25_1'))
       (try have e25_2'_25 := (hV.keepc HS e25_2'))
       replace H := zbind H; obtain ⟨t26, ht26, H⟩ := H
       by_cases c30 : 2 < ((rd_T65 t3.1.f2 0).f2.length : Int)
       case neg => exact zno c30 H
       replace H := zpos c30 H
       replace c30 := eq_true c30
       have c30n : (2 < (rd_T65 t3.1.f2 0).f2.length) = True := eq_true (by have := of_eq_true c30; omega)
       replace H := zbind H; obtain ⟨t32, ht32, H⟩ := H
       by_cases c36 : 3 < ((rd_T65 t3.1.f2 0).f2.length : Int)
       case neg => exact zno c36 H
       replace H := zpos c36 H
       replace c36 := eq_true c36
       have c36n : (3 < (rd_T65 t3.1.f2 0).f2.length) = True := eq_true (by have := of_eq_true c36; omega)
       replace H := zbind H; obtain ⟨t38, ht38, H⟩ := H
       by_cases c42 : 4 < ((rd_T65 t3.1.f2 0).f2.length : Int)
       case neg => exact zno c42 H
       replace H := zpos c42 H
       replace c42 := eq_true c42
       have c42n : (4 < (rd_T65 t3.1.f2 0).f2.length) = True := eq_true (by have := of_eq_true c42; omega)
       replace H := zbind H; obtain ⟨t44, ht44, H⟩ := H
       go_wp2_with (first | ((with_reducible refine gate_dst (N := 55) rfl ?_); refine ev_call rfl Tryd.func49 (by kernel_rfl) rfl #[.agg #[.int .i64 ((rd_T65 ((rd_T65 t3.1.f2 0).f2) 1).f0), .string ((rd_T65 ((rd_T65 t3.1.f2 0).f2) 1).f1), .slice B25_2 (rd_T65 ((rd_T65 t3.1.f2 0).f2) 1).f2.length d25_2]] rfl (by simp only [List.map_toArray, List.map_cons, List.map_nil]; rfl) ?_; refine (spec_IntIn.calls ht26.out (hV.ro km65 HS y25_2) m25_2).mono ?_; rintro _ wt26 ⟨rfl, HQ⟩; refine ⟨_, rfl, ?_⟩; replace HS := HS.call HQ; clear HQ; (try clear F); (try simp only [hpn, hpm] at HS); have F := HS.boxes; simp only [boxFacts, and_true] at F) | ((with_reducible refine gate_store (p := 58) rfl ?_); refine ev_store rfl 2 1 HS (seg := [.int .i64 t26.1]) rfl rfl rfl rfl rfl rfl (by kernel_rfl) (by simp [wrt]) (by simp [Value.oneCell']) ?_; clear HS; (try clear F); intro w28 HS; (try simp only [hpn, hpm] at HS); have F := HS.boxes; simp only [boxFacts, and_true] at F; obtain ⟨ad31, B31_2, d31_2, hq31, e31_0, e31_1, e31_2, m31_2, y31_2⟩ := at_T65 y17_2 2 (of_eq_true (eq_true (by decide))) (of_eq_true c30); obtain rfl := Option.some.inj hq31; (try (have e31_0' := e31_0; simp only [Int.toNat_zero, Int.reduceToNat, Int.toNat_natCast, Nat.zero_mul, Nat.one_mul, Nat.zero_add, Nat.add_zero, Addr.add_zero', Addr.add_succ', Nat.reduceMul, Nat.reduceAdd] at e31_0')); (try (have e31_1' := e31_1; simp only [Int.toNat_zero, Int.reduceToNat, Int.toNat_natCast, Nat.zero_mul, Nat.one_mul, Nat.zero_add, Nat.add_zero, Addr.add_zero', Addr.add_succ', Nat.reduceMul, Nat.reduceAdd] at e31_1')); (try (have e31_2' := e31_2; simp only [Int.toNat_zero, Int.reduceToNat, Int.toNat_natCast, Nat.zero_mul, Nat.one_mul, Nat.zero_add, Nat.add_zero, Addr.add_zero', Addr.add_succ', Nat.reduceMul, Nat.reduceAdd] at e31_2')); have e31_0_31 := (hV.keepc HS e31_0); have e31_1_31 := (hV.keepc HS e31_1); have e31_2_31 := (hV.keepc HS e31_2); (try have e31_0'_31 := (hV.keepc HS e31_0')); (try have e31_1'_31 := (hV.keepc HS e31_1')); (try have e31_2'_31 := (hV.keepc HS e31_2'))) | ((with_reducible refine gate_dst (N := 63) rfl ?_); refine ev_call rfl Tryd.func49 (by kernel_rfl) rfl #[.agg #[.int .i64 ((rd_T65 ((rd_T65 t3.1.f2 0).f2) 2).f0), .string ((rd_T65 ((rd_T65 t3.1.f2 0).f2) 2).f1), .slice B31_2 (rd_T65 ((rd_T65 t3.1.f2 0).f2) 2).f2.length d31_2]] rfl (by simp only [List.map_toArray, List.map_cons, List.map_nil]; rfl) ?_; refine (spec_IntIn.calls ht32.out (hV.ro km65 HS y31_2) m31_2).mono ?_; rintro _ wt32 ⟨rfl, HQ⟩; refine ⟨_, rfl, ?_⟩; replace HS := HS.call HQ; clear HQ; (try clear F); (try simp only [hpn, hpm] at HS); have F := HS.boxes; simp only [boxFacts, and_true] at F) | ((with_reducible refine gate_store (p := 66) rfl ?_); refine ev_store rfl 2 2 HS (seg := [.int .i64 t32.1]) rfl rfl rfl rfl rfl rfl (by kernel_rfl) (by simp [wrt]) (by simp [Value.oneCell']) ?_; clear HS; (try clear F); intro w34 HS; (try simp only [hpn, hpm] at HS); have F := HS.boxes; simp only [boxFacts, and_true] at F; obtain ⟨ad37, B37_2, d37_2, hq37, e37_0, e37_1, e37_2, m37_2, y37_2⟩ := at_T65 y17_2 3 (of_eq_true (eq_true (by decide))) (of_eq_true c36); obtain rfl := Option.some.inj hq37; (try (have e37_0' := e37_0; simp only [Int.toNat_zero, Int.reduceToNat, Int.toNat_natCast, Nat.zero_mul, Nat.one_mul, Nat.zero_add, Nat.add_zero, Addr.add_zero', Addr.add_succ', Nat.reduceMul, Nat.reduceAdd] at e37_0')); (try (have e37_1' := e37_1; simp only [Int.toNat_zero, Int.reduceToNat, Int.toNat_natCast, Nat.zero_mul, Nat.one_mul, Nat.zero_add, Nat.add_zero, Addr.add_zero', Addr.add_succ', Nat.reduceMul, Nat.reduceAdd] at e37_1')); (try (have e37_2' := e37_2; simp only [Int.toNat_zero, Int.reduceToNat, Int.toNat_natCast, Nat.zero_mul, Nat.one_mul, Nat.zero_add, Nat.add_zero, Addr.add_zero', Addr.add_succ', Nat.reduceMul, Nat.reduceAdd] at e37_2')); have e37_0_37 := (hV.keepc HS e37_0); have e37_1_37 := (hV.keepc HS e37_1); have e37_2_37 := (hV.keepc HS e37_2); (try have e37_0'_37 := (hV.keepc HS e37_0')); (try have e37_1'_37 := (hV.keepc HS e37_1')); (try have e37_2'_37 := (hV.keepc HS e37_2'))) | ((with_reducible refine gate_dst (N := 71) rfl ?_); refine ev_call rfl Tryd.func49 (by kernel_rfl) rfl #[.agg #[.int .i64 ((rd_T65 ((rd_T65 t3.1.f2 0).f2) 3).f0), .string ((rd_T65 ((rd_T65 t3.1.f2 0).f2) 3).f1), .slice B37_2 (rd_T65 ((rd_T65 t3.1.f2 0).f2) 3).f2.length d37_2]] rfl (by simp only [List.map_toArray, List.map_cons, List.map_nil]; rfl) ?_; refine (spec_IntIn.calls ht38.out (hV.ro km65 HS y37_2) m37_2).mono ?_; rintro _ wt38 ⟨rfl, HQ⟩; refine ⟨_, rfl, ?_⟩; replace HS := HS.call HQ; clear HQ; (try clear F); (try simp only [hpn, hpm] at HS); have F := HS.boxes; simp only [boxFacts, and_true] at F) | ((with_reducible refine gate_store (p := 74) rfl ?_); refine ev_store rfl 2 3 HS (seg := [.int .i64 t38.1]) rfl rfl rfl rfl rfl rfl (by kernel_rfl) (by simp [wrt]) (by simp [Value.oneCell']) ?_; clear HS; (try clear F); intro w40 HS; (try simp only [hpn, hpm] at HS); have F := HS.boxes; simp only [boxFacts, and_true] at F; obtain ⟨ad43, B43_2, d43_2, hq43, e43_0, e43_1, e43_2, m43_2, y43_2⟩ := at_T65 y17_2 4 (of_eq_true (eq_true (by decide))) (of_eq_true c42); obtain rfl := Option.some.inj hq43; (try (have e43_0' := e43_0; simp only [Int.toNat_zero, Int.reduceToNat, Int.toNat_natCast, Nat.zero_mul, Nat.one_mul, Nat.zero_add, Nat.add_zero, Addr.add_zero', Addr.add_succ', Nat.reduceMul, Nat.reduceAdd] at e43_0')); (try (have e43_1' := e43_1; simp only [Int.toNat_zero, Int.reduceToNat, Int.toNat_natCast, Nat.zero_mul, Nat.one_mul, Nat.zero_add, Nat.add_zero, Addr.add_zero', Addr.add_succ', Nat.reduceMul, Nat.reduceAdd] at e43_1')); (try (have e43_2' := e43_2; simp only [Int.toNat_zero, Int.reduceToNat, Int.toNat_natCast, Nat.zero_mul, Nat.one_mul, Nat.zero_add, Nat.add_zero, Addr.add_zero', Addr.add_succ', Nat.reduceMul, Nat.reduceAdd] at e43_2')); have e43_0_43 := (hV.keepc HS e43_0); have e43_1_43 := (hV.keepc HS e43_1); have e43_2_43 := (hV.keepc HS e43_2); (try have e43_0'_43 := (hV.keepc HS e43_0')); (try have e43_1'_43 := (hV.keepc HS e43_1')); (try have e43_2'_43 := (hV.keepc HS e43_2'))) | ((with_reducible refine gate_dst (N := 79) rfl ?_); refine ev_call rfl Tryd.func49 (by kernel_rfl) rfl #[.agg #[.int .i64 ((rd_T65 ((rd_T65 t3.1.f2 0).f2) 4).f0), .string ((rd_T65 ((rd_T65 t3.1.f2 0).f2) 4).f1), .slice B43_2 (rd_T65 ((rd_T65 t3.1.f2 0).f2) 4).f2.length d43_2]] rfl (by simp only [List.map_toArray, List.map_cons, List.map_nil]; rfl) ?_; refine (spec_IntIn.calls ht44.out (hV.ro km65 HS y43_2) m43_2).mono ?_; rintro _ wt44 ⟨rfl, HQ⟩; refine ⟨_, rfl, ?_⟩; replace HS := HS.call HQ; clear HQ; (try clear F); (try simp only [hpn, hpm] at HS); have F := HS.boxes; simp only [boxFacts, and_true] at F) | ((with_reducible refine gate_store (p := 82) rfl ?_); refine ev_store rfl 2 4 HS (seg := [.int .i64 t44.1]) rfl rfl rfl rfl rfl rfl (by kernel_rfl) (by simp [wrt]) (by simp [Value.oneCell']) ?_; clear HS; (try clear F); intro w46 HS; (try simp only [hpn, hpm] at HS); have F := HS.boxes; simp only [boxFacts, and_true] at F))
       replace HS := HS.nil 82 q82
       go_loopg [11] k (fun kq v_11 w' => ∃ (l70 : List S82) (v71 : Value) (x72 : Int), v_11 = .int .i64 x72 ∧ Aside0 (spec_ReadCrl.l0 kq l70 x72 a0 t3 t26 t32 t38 t44 = some (r1, r2)) ∧ Aside0 (kq ≤ k) ∧ Hp A6 wt3 w' [.box g2 [.string (⟨#[]⟩ : ByteArray), .int .i64 0, .int .i64 0, .int .i64 0, .int .i64 0, .slice none 0 0, .string (⟨#[]⟩ : ByteArray)] 50, .box g4 [.int .i64 t3.1.f0, .string t3.1.f1, .slice (some ad17) t3.1.f2.length d4] 65, .box g10 [.string ((rd_T65 ((rd_T65 t3.1.f2 0).f2) 0).f1), .int .i64 t26.1, .int .i64 t32.1, .int .i64 t38.1, .int .i64 t44.1, v71, .string ((rd_T65 t3.1.f2 1).f1)] 50, .own (Zd.slice 82 q82) l70 [v71]])
       case atStart => exact ⟨_, _, _, rfl, H, ⟨Nat.le_refl _⟩, HS⟩
       case round =>
        clear HS H; (try clear F)
        obtain ⟨l70, v71, x72, rfl, H, HKk69, HS⟩ := hrel
        obtain ⟨B71, d71, rfl, m71⟩ := HS.form 3 rfl
        have F := HS.boxes; simp only [boxFacts, and_true] at F
        cases gk with
        | zero => exact absurd H.out (by simp [spec_ReadCrl.l0])
        | succ k69 =>
         simp only [spec_ReadCrl.l0] at H
         by_cases c74 : 5 < ((rd_T65 t3.1.f2 0).f2.length : Int)
         case neg => exact zno c74 H
         replace H := zpos c74 H
         replace c74 := eq_true c74
         have c74n : (5 < (rd_T65 t3.1.f2 0).f2.length) = True := eq_true (by have := of_eq_true c74; omega)
         obtain ⟨ad75, B75_2, d75_2, hq75, e75_0, e75_1, e75_2, m75_2, y75_2⟩ := at_T65 y17_2 5 (of_eq_true (eq_true (by decide))) (of_eq_true c74)
         obtain rfl := Option.some.inj hq75
         (try (have e75_0' := e75_0; simp only [Int.toNat_zero, Int.reduceToNat, Int.toNat_natCast, Nat.zero_mul, Nat.one_mul, Nat.zero_add, Nat.add_zero, Addr.add_zero', Addr.add_succ', Nat.reduceMul, Nat.reduceAdd] at e75_0'))
         (try (have e75_1' := e75_1; simp only [Int.toNat_zero, Int.reduceToNat, Int.toNat_natCast, Nat.zero_mul, Nat.one_mul, Nat.zero_add, Nat.add_zero, Addr.add_zero', Addr.add_succ', Nat.reduceMul, Nat.reduceAdd] at e75_1'))
         (try (have e75_2' := e75_2; simp only [Int.toNat_zero, Int.reduceToNat, Int.toNat_natCast, Nat.zero_mul, Nat.one_mul, Nat.zero_add, Nat.add_zero, Addr.add_zero', Addr.add_succ', Nat.reduceMul, Nat.reduceAdd] at e75_2'))
         have e75_0_75 := (hV.keepc HS e75_0)
         have e75_1_75 := (hV.keepc HS e75_1)
         have e75_2_75 := (hV.keepc HS e75_2)
         (try have e75_0'_75 := (hV.keepc HS e75_0'))
         (try have e75_1'_75 := (hV.keepc HS e75_1'))
         (try have e75_2'_75 := (hV.keepc HS e75_2'))
         by_cases c76 : x72 < ((rd_T65 ((rd_T65 t3.1.f2 0).f2) 5).f2.length : Int)
         · replace H := zpos c76 H
           replace c76 := eq_true c76
           have e75_0_77 := (hV.keepc HS e75_0)
           have e75_1_77 := (hV.keepc HS e75_1)
           have e75_2_77 := (hV.keepc HS e75_2)
           (try have e75_0'_77 := (hV.keepc HS e75_0'))
           (try have e75_1'_77 := (hV.keepc HS e75_1'))
           (try have e75_2'_77 := (hV.keepc HS e75_2'))
           by_cases c78 : 0 ≤ x72
           case neg => exact zno c78 H
           replace H := zpos c78 H
           replace c78 := eq_true c78
           by_cases c79 : x72 < ((rd_T65 ((rd_T65 t3.1.f2 0).f2) 5).f2.length : Int)
           case neg => exact zno c79 H
           replace H := zpos c79 H
           replace c79 := eq_true c79
           obtain ⟨ad80, B80_2, d80_2, rfl, e80_0, e80_1, e80_2, m80_2, y80_2⟩ := at_T65 y75_2 x72 (of_eq_true c78) (of_eq_true c79)
           have e80_0_80 := (hV.keepc HS e80_0)
           have e80_1_80 := (hV.keepc HS e80_1)
           have e80_2_80 := (hV.keepc HS e80_2)
           replace H := zbind H; obtain ⟨t81, ht81, H⟩ := H
           go_upto_if 102 with (first | ((with_reducible refine gate_dst (N := 99) rfl ?_); refine ev_call rfl Tryd.func50 (by kernel_rfl) rfl #[.agg #[.int .i64 ((rd_T65 ((rd_T65 ((rd_T65 t3.1.f2 0).f2) 5).f2) x72).f0), .string ((rd_T65 ((rd_T65 ((rd_T65 t3.1.f2 0).f2) 5).f2) x72).f1), .slice B80_2 (rd_T65 ((rd_T65 ((rd_T65 t3.1.f2 0).f2) 5).f2) x72).f2.length d80_2]] rfl (by simp only [List.map_toArray, List.map_cons, List.map_nil]; rfl) ?_; refine (spec_l09IntsIn.calls ht81.out (hV.ro km65 HS y80_2) m80_2).mono ?_; rintro _ wt81 ⟨v82, rfl, HQ⟩; refine ⟨_, rfl, ?_⟩; replace HS := HS.call HQ; clear HQ; (try clear F); obtain ⟨B82, d82, rfl, m82⟩ := HS.form 4 rfl; (try simp only [hpn, hpm] at HS); have F := HS.boxes; simp only [boxFacts, and_true] at F))
           by_cases c84 : (t81.length : Int) = 2
           · replace H := zpos c84 H
             have c84a := beq_iff_eq.mpr c84
             have c84b := bne_eq_false_iff_eq.mpr c84
             clear c84
             (try simp only [c84a, c84b, dcn])
             (try go_wp2)
             by_cases c303001 : 0 < (t81.length : Int)
             case neg => exact zno c303001 H
             replace H := zpos c303001 H
             replace c303001 := eq_true c303001
             have c303001n : (0 < t81.length) = True := eq_true (by have := of_eq_true c303001; omega)
             obtain ⟨ad303999, rfl, e303999_0⟩ := Kd.at_int (HS.rd 4 rfl) 0 (of_eq_true (eq_true (by decide))) (of_eq_true c303001); (try (have e303999_0' := e303999_0; simp only [Int.toNat_zero, Int.reduceToNat, Int.toNat_natCast, Nat.zero_mul, Nat.one_mul, Nat.zero_add, Nat.add_zero, Addr.add_zero', Addr.add_succ', Nat.reduceMul, Nat.reduceAdd] at e303999_0'))
             by_cases c306001 : 1 < (t81.length : Int)
             case neg => exact zno c306001 H
             replace H := zpos c306001 H
             replace c306001 := eq_true c306001
             have c306001n : (1 < t81.length) = True := eq_true (by have := of_eq_true c306001; omega)
             obtain ⟨ad306999, hq306999, e306999_0⟩ := Kd.at_int (HS.rd 4 rfl) 1 (of_eq_true (eq_true (by decide))) (of_eq_true c306001); obtain rfl := Option.some.inj hq306999; (try (have e306999_0' := e306999_0; simp only [Int.toNat_zero, Int.reduceToNat, Int.toNat_natCast, Nat.zero_mul, Nat.one_mul, Nat.zero_add, Nat.add_zero, Addr.add_zero', Addr.add_succ', Nat.reduceMul, Nat.reduceAdd] at e306999_0'))
             by_cases c310001 : l70.length + 1 ≤ 8796093022208
             case neg => exact zno c310001 H
             replace H := zpos c310001 H
             replace c310001 := eq_true c310001
             replace H := zlets H; obtain ⟨y310999, e_y310999, H⟩ := H
             refine dr_start2 [.box g2 [.string (⟨#[]⟩ : ByteArray), .int .i64 0, .int .i64 0, .int .i64 0, .int .i64 0, .slice none 0 0, .string (⟨#[]⟩ : ByteArray)] 50, .box g4 [.int .i64 t3.1.f0, .string t3.1.f1, .slice (some ad17) t3.1.f2.length d4] 65, .box g10 [.string ((rd_T65 ((rd_T65 t3.1.f2 0).f2) 0).f1), .int .i64 t26.1, .int .i64 t32.1, .int .i64 t38.1, .int .i64 t44.1, .slice B71 l70.length d71, .string ((rd_T65 t3.1.f2 1).f1)] 50, .emp, .own (Zd.slice 3 (Zd.int .i64)) t81 [.slice (some ad303999) t81.length d82]] [12] HS (HS.arr [some 0, some 1, some 2, none, some 4] (by decide)) #[false, false, false, false, false, false, false, false, false, false, false, false, false] (by kernel_rfl) rfl rfl spec_ReadCrl.tT19 (fun w86 HT HS HH => ?_)
             (try clear F)
             refine drq_of [(0, some 104), (1, some 105), (2, some 106), (3, some 107)] ?_
             repeat (first | (refine drq_pure HT (v := ?_) (a' := ?_) rfl rfl (by kernel_rfl) (fun _ _ _ h => h) (.inl ⟨by rfl, ?_⟩) ?_ ?_; rotate_left; (intro w'; go_simp; with_reducible rfl); rotate_left; (simp only [Act.put, List.setIfInBounds_toArray, List.set_cons_zero, List.set_cons_succ, i64_w, i32_w]; rfl)) | (refine drq_take HT HH (v := ?_) (a' := ?_) rfl rfl (by kernel_rfl) (fun _ _ _ h => h) (.inl ⟨by rfl, ?_⟩) ?_ ?_; rotate_left; (rintro w' ⟨rs', HS'⟩; have F := HS'.boxes; simp only [boxFacts, List.cons_append, List.nil_append, and_true] at F; go_simp; with_reducible rfl); rotate_left; (simp only [Act.put, List.setIfInBounds_toArray, List.set_cons_zero, List.set_cons_succ, i64_w, i32_w]; rfl)))
             refine drq_end ?_
             refine dr_take 4 (some 108) HT HH (v := ?_) (a' := ?_) rfl rfl (by kernel_rfl) (fun _ _ _ h => h) (.inl ⟨by rfl, ?_⟩) ?_ ?_
             rotate_left
             · rintro w' ⟨rs', HS'⟩; obtain ⟨ad_, q_, e303999_0⟩ := Kd.at_int (HS'.rd 4 rfl) 0 (of_eq_true (eq_true (by decide))) (of_eq_true c303001); obtain rfl := Option.some.inj q_; (try simp only [Int.toNat_zero, Int.reduceToNat, Int.toNat_natCast, Nat.zero_mul, Nat.one_mul, Nat.zero_add, Nat.add_zero, Addr.add_zero', Addr.add_succ', Nat.reduceMul, Nat.reduceAdd] at e303999_0); go_simp; with_reducible rfl
             rotate_left
             · simp only [Act.put, List.setIfInBounds_toArray, List.set_cons_zero, List.set_cons_succ, i64_w, i32_w]; rfl
             refine drq_of [(5, some 109), (6, some 110)] ?_
             repeat (first | (refine drq_pure HT (v := ?_) (a' := ?_) rfl rfl (by kernel_rfl) (fun _ _ _ h => h) (.inl ⟨by rfl, ?_⟩) ?_ ?_; rotate_left; (intro w'; go_simp; with_reducible rfl); rotate_left; (simp only [Act.put, List.setIfInBounds_toArray, List.set_cons_zero, List.set_cons_succ, i64_w, i32_w]; rfl)))
             refine drq_end ?_
             refine dr_take 7 (some 111) HT HH (v := ?_) (a' := ?_) rfl rfl (by kernel_rfl) (fun _ _ _ h => h) (.inl ⟨by rfl, ?_⟩) ?_ ?_
             rotate_left
             · rintro w' ⟨rs', HS'⟩; obtain ⟨ad_, q_, e306999_0⟩ := Kd.at_int (HS'.rd 4 rfl) 1 (of_eq_true (eq_true (by decide))) (of_eq_true c306001); obtain rfl := Option.some.inj q_; (try simp only [Int.toNat_zero, Int.reduceToNat, Int.toNat_natCast, Nat.zero_mul, Nat.one_mul, Nat.zero_add, Nat.add_zero, Addr.add_zero', Addr.add_succ', Nat.reduceMul, Nat.reduceAdd] at e306999_0); go_simp; with_reducible rfl
             rotate_left
             · simp only [Act.put, List.setIfInBounds_toArray, List.set_cons_zero, List.set_cons_succ, i64_w, i32_w]; rfl
             refine drq_of [(8, some 112)] ?_
             repeat (first | (refine drq_pure HT (v := ?_) (a' := ?_) rfl rfl (by kernel_rfl) (fun _ _ _ h => h) (.inl ⟨by rfl, ?_⟩) ?_ ?_; rotate_left; (intro w'; go_simp; with_reducible rfl); rotate_left; (simp only [Act.put, List.setIfInBounds_toArray, List.set_cons_zero, List.set_cons_succ, i64_w, i32_w]; rfl)))
             refine drq_end ?_
             refine dr_one 9 HT rfl (by kernel_rfl) (by decide) (fun K hK => ?_)
             refine if_wp (by rfl) ?_; refine wp_lit q82 [] ([(⟨(rd t81 0), (rd t81 1)⟩ : S82)] : List S82) ([.int .i64 (rd t81 0), .int .i64 (rd t81 1)] ++ []) HS (by first | (go_simp; done) | (go_simp; rfl)) rfl rfl (Nat.le_of_ble_eq_true rfl) (MadeL.cons (js1 := []) (c := [.int .i64 (rd t81 0), .int .i64 (rd t81 1)]) rfl (made_flat (fun _ => q82_flat _ _ _)) MadeL.nil (by decide)) ?_; clear HS; (try clear F); intro v309001 w309001 HS; obtain ⟨B309001, d309001, rfl, m309001⟩ := HS.formn 1 5 rfl rfl
             (try simp only [hpn, hpm] at HS)
             have F := HS.boxes; simp only [boxFacts, and_true] at F
             refine hK.out _ _ ⟨[], HS.arr [some 0, some 1, some 2, none, some 4] (by decide)⟩ (fun HH => ?_)
             clear hK K
             refine norm_ (a' := ?_) ?_ ?_
             rotate_left
             · show Act.put _ (some 113) _ = _; simp only [Act.put, List.setIfInBounds_toArray, List.set_cons_zero, List.set_cons_succ, i64_w, i32_w, c14, c15, c20]; rfl
             refine dr_one 10 HT rfl (by kernel_rfl) (by decide) (fun K hK => ?_)
             refine if_wp (by rfl) ?_; refine wp_append q82 3 5 HS rfl rfl (by decide) rfl rfl rfl Tryd.underlying48 info82 rfl (by decide) (by decide) (by have := of_eq_true c310001; first | omega | (simp only [List.length_cons, List.length_nil, List.length_append, Nat.zero_add] at this ⊢; omega)) ?_; clear HS; (try clear F); intro v310999 w310999 HS; rw [← e_y310999.out] at HS; obtain ⟨B310999, d310999, rfl, m310999⟩ := HS.form 6 rfl
             (try simp only [hpn, hpm] at HS)
             have F := HS.boxes; simp only [boxFacts, and_true] at F
             refine hK.out _ _ ⟨[], HS.arr [some 0, some 1, some 2, none, some 4] (by decide)⟩ (fun HH => ?_)
             clear hK K
             refine norm_ (a' := ?_) ?_ ?_
             rotate_left
             · show Act.put _ (some 114) _ = _; simp only [Act.put, List.setIfInBounds_toArray, List.set_cons_zero, List.set_cons_succ, i64_w, i32_w, c14, c15, c20]; rfl
             refine drq_of [(11, some 115)] ?_
             repeat (first | (refine drq_pure HT (v := ?_) (a' := ?_) rfl rfl (by kernel_rfl) (fun _ _ _ h => h) (.inl ⟨by rfl, ?_⟩) ?_ ?_; rotate_left; (intro w'; go_simp; with_reducible rfl); rotate_left; (simp only [Act.put, List.setIfInBounds_toArray, List.set_cons_zero, List.set_cons_succ, i64_w, i32_w]; rfl)))
             refine drq_end ?_
             refine dr_last 12 HT rfl (by kernel_rfl) (by decide) (fun K hK => ?_)
             refine if_wp (by rfl) ?_; refine wp_store 2 5 HS (seg := [.slice B310999 y310999.length d310999]) rfl rfl rfl rfl rfl rfl (by kernel_rfl) (by simp [wrt]) (by simp [Value.oneCell']) ?_; clear HS; (try clear F); intro w312001 HS
             (try simp only [hpn, hpm] at HS)
             have F := HS.boxes; simp only [boxFacts, and_true] at F
             refine hK.out _ _ ?_
             clear hK K
             refine done_ (done_of HT.out (by kernel_rfl)) ?_
             (try clear F)
             have F := HS.boxes; simp only [boxFacts, and_true] at F
             go_wp2
             go_roundg k69
             case measure => have := HKk69.out; omega
             case rel => exact ⟨_, _, _, rfl, H, ⟨by have := HKk69.out; omega⟩, HS.pick [0, 1, 2, 6] (by decide) (by rfl)⟩
           · replace H := zneg c84 H
             have c84a := beq_eq_false_iff_ne.mpr c84
             have c84b := bne_iff_ne.mpr c84
             clear c84
             (try simp only [c84a, c84b, dcn])
             obtain ⟨rfl, rfl⟩ := zsome2 H
             go_wp2_with (first | ((with_reducible refine gate_store (p := 2) rfl ?_); refine ev_store rfl 0 0 HS (seg := [.string (⟨#[]⟩ : ByteArray), .int .i64 0, .int .i64 0, .int .i64 0, .int .i64 0, .slice none 0 0, .string (⟨#[]⟩ : ByteArray)]) rfl rfl rfl rfl rfl rfl (by kernel_rfl) (by simp [wrt]) (by simp [Value.oneCell']) ?_; clear HS; (try clear F); intro w88 HS; (try simp only [hpn, hpm] at HS); have F := HS.boxes; simp only [boxFacts, and_true] at F))
             have HS := HB6 _ _ HS (Nat.le_of_ble_eq_true rfl)
             replace HS := HS.nil 82 q82
             exact bodyPost_ret (results_list (rs := [.cell 2 50, .tmp 3]) rfl (by simp) (.cell _ _ _ _ _ rfl (HS.boxAt (i := 0) rfl) Tryd.underlying50 rfl (by kernel_rfl) (.tmp .nil))) rfl ⟨_, rfl, HS.pick [6] (by decide) (by rfl)⟩
         · replace H := zneg c76 H
           replace c76 := eq_false c76
           replace H := zbind H; obtain ⟨t90, ht90, H⟩ := H
           by_cases c92 : t90.2 = true
           · replace H := zpos c92 H
             go_upto_if 127 with (first | ((with_reducible refine gate_dst (N := 118) rfl ?_); refine ev_call rfl Tryd.func51 (by kernel_rfl) rfl #[.agg #[.string ((rd_T65 ((rd_T65 t3.1.f2 0).f2) 0).f1), .int .i64 t26.1, .int .i64 t32.1, .int .i64 t38.1, .int .i64 t44.1, .slice B71 l70.length d71, .string ((rd_T65 t3.1.f2 1).f1)]] rfl (by simp only [List.map_toArray, List.map_cons, List.map_nil]; rfl) ?_; refine (spec_CrlText.calls ht90.out (HS.rd 3 rfl) m71).mono ?_; rintro _ wt90 ⟨rfl, HQ⟩; refine ⟨_, rfl, ?_⟩; replace HS := HS.call HQ; clear HQ; (try clear F); (try simp only [hpn, hpm] at HS); have F := HS.boxes; simp only [boxFacts, and_true] at F; (try simp only [c92])))
             by_cases c93 : t90.1.toList = a0.toList
             · replace H := zpos c93 H
               have c93a := beq_iff_eq.mpr c93
               have c93b := bne_eq_false_iff_eq.mpr c93
               clear c93
               (try simp only [c93a, c93b, dcn])
               obtain ⟨rfl, rfl⟩ := zsome2 H
               go_wp2_with (first | ((with_reducible refine gate_store (p := 2) rfl ?_); refine ev_store rfl 0 0 HS (seg := [.string ((rd_T65 ((rd_T65 t3.1.f2 0).f2) 0).f1), .int .i64 t26.1, .int .i64 t32.1, .int .i64 t38.1, .int .i64 t44.1, .slice B71 l70.length d71, .string ((rd_T65 t3.1.f2 1).f1)]) rfl rfl rfl rfl rfl rfl (by kernel_rfl) (by simp [wrt]) (by simp [Value.oneCell']) ?_; clear HS; (try clear F); intro w94 HS; (try simp only [hpn, hpm] at HS); have F := HS.boxes; simp only [boxFacts, and_true] at F))
               have HS := HB6 _ _ HS (Nat.le_of_ble_eq_true rfl)
               exact bodyPost_ret (results_list (rs := [.cell 2 50, .tmp 3]) rfl (by simp) (.cell _ _ _ _ _ rfl (HS.boxAt (i := 0) rfl) Tryd.underlying50 rfl (by kernel_rfl) (.tmp .nil))) rfl ⟨_, rfl, HS.pick [4] (by decide) (by rfl)⟩
             · replace H := zneg c93 H
               have c93a := beq_eq_false_iff_ne.mpr c93
               have c93b := bne_iff_ne.mpr c93
               clear c93
               (try simp only [c93a, c93b, dcn])
               obtain ⟨rfl, rfl⟩ := zsome2 H
               go_wp2_with (first | ((with_reducible refine gate_store (p := 2) rfl ?_); refine ev_store rfl 0 0 HS (seg := [.string (⟨#[]⟩ : ByteArray), .int .i64 0, .int .i64 0, .int .i64 0, .int .i64 0, .slice none 0 0, .string (⟨#[]⟩ : ByteArray)]) rfl rfl rfl rfl rfl rfl (by kernel_rfl) (by simp [wrt]) (by simp [Value.oneCell']) ?_; clear HS; (try clear F); intro w96 HS; (try simp only [hpn, hpm] at HS); have F := HS.boxes; simp only [boxFacts, and_true] at F))
               have HS := HB6 _ _ HS (Nat.le_of_ble_eq_true rfl)
               replace HS := HS.nil 82 q82
               exact bodyPost_ret (results_list (rs := [.cell 2 50, .tmp 3]) rfl (by simp) (.cell _ _ _ _ _ rfl (HS.boxAt (i := 0) rfl) Tryd.underlying50 rfl (by kernel_rfl) (.tmp .nil))) rfl ⟨_, rfl, HS.pick [5] (by decide) (by rfl)⟩
           · replace H := zneg c92 H
             replace c92 := eq_false_of_ne_true c92
             obtain ⟨rfl, rfl⟩ := zsome2 H
             go_wp2_with (first | ((with_reducible refine gate_dst (N := 118) rfl ?_); refine ev_call rfl Tryd.func51 (by kernel_rfl) rfl #[.agg #[.string ((rd_T65 ((rd_T65 t3.1.f2 0).f2) 0).f1), .int .i64 t26.1, .int .i64 t32.1, .int .i64 t38.1, .int .i64 t44.1, .slice B71 l70.length d71, .string ((rd_T65 t3.1.f2 1).f1)]] rfl (by simp only [List.map_toArray, List.map_cons, List.map_nil]; rfl) ?_; refine (spec_CrlText.calls ht90.out (HS.rd 3 rfl) m71).mono ?_; rintro _ wt90 ⟨rfl, HQ⟩; refine ⟨_, rfl, ?_⟩; replace HS := HS.call HQ; clear HQ; (try clear F); (try simp only [hpn, hpm] at HS); have F := HS.boxes; simp only [boxFacts, and_true] at F; (try simp only [c92])) | ((with_reducible refine gate_store (p := 2) rfl ?_); refine ev_store rfl 0 0 HS (seg := [.string (⟨#[]⟩ : ByteArray), .int .i64 0, .int .i64 0, .int .i64 0, .int .i64 0, .slice none 0 0, .string (⟨#[]⟩ : ByteArray)]) rfl rfl rfl rfl rfl rfl (by kernel_rfl) (by simp [wrt]) (by simp [Value.oneCell']) ?_; clear HS; (try clear F); intro w98 HS; (try simp only [hpn, hpm] at HS); have F := HS.boxes; simp only [boxFacts, and_true] at F))
             have HS := HB6 _ _ HS (Nat.le_of_ble_eq_true rfl)
             replace HS := HS.nil 82 q82
             exact bodyPost_ret (results_list (rs := [.cell 2 50, .tmp 3]) rfl (by simp) (.cell _ _ _ _ _ rfl (HS.boxAt (i := 0) rfl) Tryd.underlying50 rfl (by kernel_rfl) (.tmp .nil))) rfl ⟨_, rfl, HS.pick [5] (by decide) (by rfl)⟩
     · replace H := zneg c20 H
       replace c20 := eq_false_of_ne_true c20
       (try simp only [c20, dcn])
       obtain ⟨rfl, rfl⟩ := zsome2 H
       go_wp2_with (first | ((with_reducible refine gate_store (p := 2) rfl ?_); refine ev_store rfl 0 0 HS (seg := [.string (⟨#[]⟩ : ByteArray), .int .i64 0, .int .i64 0, .int .i64 0, .int .i64 0, .slice none 0 0, .string (⟨#[]⟩ : ByteArray)]) rfl rfl rfl rfl rfl rfl (by kernel_rfl) (by simp [wrt]) (by simp [Value.oneCell']) ?_; clear HS; (try clear F); intro w100 HS; (try simp only [hpn, hpm] at HS); have F := HS.boxes; simp only [boxFacts, and_true] at F))
       have HS := HB6 _ _ HS (Nat.le_of_ble_eq_true rfl)
       replace HS := HS.nil 82 q82
       exact bodyPost_ret (results_list (rs := [.cell 2 50, .tmp 3]) rfl (by simp) (.cell _ _ _ _ _ rfl (HS.boxAt (i := 0) rfl) Tryd.underlying50 rfl (by kernel_rfl) (.tmp .nil))) rfl ⟨_, rfl, HS.pick [3] (by decide) (by rfl)⟩
   · replace H := zneg c15 H
     replace c15 := eq_false_of_ne_true c15
     (try simp only [c15, dcn])
     obtain ⟨rfl, rfl⟩ := zsome2 H
     go_wp2_with (first | ((with_reducible refine gate_store (p := 2) rfl ?_); refine ev_store rfl 0 0 HS (seg := [.string (⟨#[]⟩ : ByteArray), .int .i64 0, .int .i64 0, .int .i64 0, .int .i64 0, .slice none 0 0, .string (⟨#[]⟩ : ByteArray)]) rfl rfl rfl rfl rfl rfl (by kernel_rfl) (by simp [wrt]) (by simp [Value.oneCell']) ?_; clear HS; (try clear F); intro w102 HS; (try simp only [hpn, hpm] at HS); have F := HS.boxes; simp only [boxFacts, and_true] at F))
     have HS := HB6 _ _ HS (Nat.le_of_ble_eq_true rfl)
     replace HS := HS.nil 82 q82
     exact bodyPost_ret (results_list (rs := [.cell 2 50, .tmp 3]) rfl (by simp) (.cell _ _ _ _ _ rfl (HS.boxAt (i := 0) rfl) Tryd.underlying50 rfl (by kernel_rfl) (.tmp .nil))) rfl ⟨_, rfl, HS.pick [3] (by decide) (by rfl)⟩
 · replace H := zneg c14 H
   replace c14 := eq_false_of_ne_true c14
   obtain ⟨rfl, rfl⟩ := zsome2 H
   go_wp2_with (first | ((with_reducible refine gate_dst (N := 2) rfl ?_); refine ev_box rfl HS (by first | (go_simp; done) | (go_simp; rfl)) rfl ?_; clear HS; (try clear F); intro g2 w2 HS; (try simp only [hpn, hpm] at HS); have F := HS.boxes; simp only [boxFacts, and_true] at F) | ((with_reducible refine gate_dst (N := 17) rfl ?_); refine ev_call rfl Tryd.func47 (by kernel_rfl) rfl #[.string a0] rfl (by simp only [List.map_toArray, List.map_cons, List.map_nil]; rfl) ?_; refine (spec_ReadItem.calls ht3.out).mono ?_; rintro _ wt3 ⟨v4, rfl, HQ⟩; refine ⟨_, rfl, ?_⟩; replace HS := HS.call HQ; clear HQ; (try clear F); obtain ⟨B4, d4, rfl, m4⟩ := HS.form 1 rfl; (try simp only [hpn, hpm] at HS); have F := HS.boxes; simp only [boxFacts, and_true] at F; refine HS.lend [0] (by decide) [.box g2 [.string (⟨#[]⟩ : ByteArray), .int .i64 0, .int .i64 0, .int .i64 0, .int .i64 0, .slice none 0 0, .string (⟨#[]⟩ : ByteArray)] 50] rfl (fun A6 HL HD HA HB6 => ?_); have gb6_0 := hide_rd HD 1 rfl (by decide); (try replace hgM := HS.hidec HL hgM); replace HS := HA; have hV := hide_view A6 wt3; clear HA HD HL; (try clear F); replace HS : Hp A6 wt3 _ [.box g2 [.string (⟨#[]⟩ : ByteArray), .int .i64 0, .int .i64 0, .int .i64 0, .int .i64 0, .slice none 0 0, .string (⟨#[]⟩ : ByteArray)] 50] := HS; have F := HS.boxes; simp only [boxFacts, and_true] at F) | ((with_reducible refine gate_dst (N := 4) rfl ?_); refine ev_box rfl HS (by first | (go_simp; done) | (go_simp; rfl)) rfl ?_; clear HS; (try clear F); intro g4 w4 HS; (try simp only [hpn, hpm] at HS); have F := HS.boxes; simp only [boxFacts, and_true] at F) | ((with_reducible refine gate_store (p := 4) rfl ?_); refine ev_store rfl 1 0 HS (seg := [.int .i64 t3.1.f0, .string t3.1.f1, .slice B4 t3.1.f2.length d4]) rfl rfl rfl rfl rfl rfl (by kernel_rfl) (by simp [wrt]) (by simp [Value.oneCell']) ?_; clear HS; (try clear F); intro w10 HS; (try simp only [hpn, hpm] at HS); have F := HS.boxes; simp only [boxFacts, and_true] at F) | ((with_reducible refine gate_dst (N := 22) rfl ?_); refine ev_call rfl Tryd.func48 (by kernel_rfl) rfl #[.agg #[.int .i64 t3.1.f0, .string t3.1.f1, .slice B4 t3.1.f2.length d4], .int .i64 2] rfl (by simp only [List.map_toArray, List.map_cons, List.map_nil]; rfl) ?_; refine (spec_l09Kids.calls ht12.out (hV.ro km65 HS gb6_0) m4).mono ?_; rintro _ wt12 ⟨rfl, HQ⟩; refine ⟨_, rfl, ?_⟩; replace HS := HS.call HQ; clear HQ; (try clear F); (try simp only [hpn, hpm] at HS); have F := HS.boxes; simp only [boxFacts, and_true] at F; (try simp only [c14])) | ((with_reducible refine gate_store (p := 2) rfl ?_); refine ev_store rfl 0 0 HS (seg := [.string (⟨#[]⟩ : ByteArray), .int .i64 0, .int .i64 0, .int .i64 0, .int .i64 0, .slice none 0 0, .string (⟨#[]⟩ : ByteArray)]) rfl rfl rfl rfl rfl rfl (by kernel_rfl) (by simp [wrt]) (by simp [Value.oneCell']) ?_; clear HS; (try clear F); intro w104 HS; (try simp only [hpn, hpm] at HS); have F := HS.boxes; simp only [boxFacts, and_true] at F))
   have HS := HB6 _ _ HS (Nat.le_of_ble_eq_true rfl)
   replace HS := HS.nil 82 q82
   exact bodyPost_ret (results_list (rs := [.cell 2 50, .tmp 3]) rfl (by simp) (.cell _ _ _ _ _ rfl (HS.boxAt (i := 0) rfl) Tryd.underlying50 rfl (by kernel_rfl) (.tmp .nil))) rfl ⟨_, rfl, HS.pick [3] (by decide) (by rfl)⟩
end Go.Proofs.YtoaoncnbimcdgaaDoor.F
