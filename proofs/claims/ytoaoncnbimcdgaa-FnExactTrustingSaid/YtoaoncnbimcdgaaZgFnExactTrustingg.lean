/- Functions of the program and of the law, and that their calls do what is written here. -/
import Derived.Test.YtoaoncnbimcdgaaZgFnExactTrustingf
namespace Go.Proofs.Ytoaoncnbimcdgaa.F
open Go.RowKit Go.Proofs.YtoaoncnbimcdgaaW.PrintWords Go.Proofs.YtoaoncnbimcdgaaW.PrintLast Go.Proofs.YtoaoncnbimcdgaaW.PrintMore Go.Proofs.Ytoaoncnbimcdgaa.Z
attribute [local go_sem] max2_int min2_int max_two min_two max_three min_three max_four min_four
set_option linter.unusedVariables false
set_option linter.unusedSimpArgs false
set_option maxRecDepth 100000
/-! ### impl_copyCrls: function 135 -/
def impl_copyCrls.l0 : Nat → (List S190) → Int → (List S190) → Option ((List S190))
  | 0, _, _, _ => none
  | k + 1, l16, x18, a0 => (if x18 < (a0.length : Int) then (if 0 ≤ x18 then (if x18 < (a0.length : Int) then ((impl_copyCrl.f (rd_T190 a0 x18)).bind fun t28 => (if l16.length + 1 ≤ 1599289640401 then (lets (l16 ++ ([t28] : List S190)) fun y34 => (impl_copyCrls.l0 k y34 (wrap64 (x18 + 1)) a0)) else none)) else none) else none) else (some l16))
def impl_copyCrls.f (k : Nat) (a0 : (List S190)) : Option ((List S190)) := (impl_copyCrls.l0 k [] 0 a0)
set_option maxHeartbeats 16000000 in
theorem impl_copyCrls.calls {k : Nat} {a0 : (List S190)} {Ap0 : Option Addr} {np0 cp0 : Nat} {r : (List S190)} {w : World} (h : impl_copyCrls.f k a0 = some r) (gp0 : k190.C w Ap0 np0 a0) (lp0 : np0 ≤ cp0) :
    Calls Try.prog 135 #[.slice Ap0 np0 cp0] w (fun e w' => ∃ v0_ : Value, e = .returned (v0_) ∧ Hp noFP w w' [.own (Zd.slice 190 q190) r [v0_]]) := by
 obtain rfl := C_len gp0
 have HS := Hp.start w
 have H := Aside0.mk h
 clear h
 unfold impl_copyCrls.f at H
 go_enter Try.func135, Try.ntmps135
 go_wp2
 replace HS := HS.nil 190 q190
 go_loopg [3, 8] k (fun kq v_3 v_8 w' => ∃ (l16 : List S190) (v17 : Value) (x18 : Int), v_3 = v17 ∧ v_8 = .int .i64 x18 ∧ Aside0 (impl_copyCrls.l0 kq l16 x18 a0 = some r) ∧ Aside0 (kq ≤ k) ∧ Hp noFP w w' [.own (Zd.slice 190 q190) l16 [v17]])
 case atStart => exact ⟨_, _, _, rfl, rfl, H, ⟨Nat.le_refl _⟩, HS⟩
 case round =>
  clear HS H; (try clear F)
  obtain ⟨l16, v17, x18, rfl, rfl, H, HKk15, HS⟩ := hrel
  obtain ⟨B17, d17, rfl, m17⟩ := HS.form 0 rfl
  cases gk with
  | zero => exact absurd H.out (by simp [impl_copyCrls.l0])
  | succ k15 =>
   simp only [impl_copyCrls.l0] at H
   by_cases c20 : x18 < (a0.length : Int)
   · replace H := zpos c20 H
     replace c20 := eq_true c20
     by_cases c21 : 0 ≤ x18
     case neg => exact zno c21 H
     replace H := zpos c21 H
     replace c21 := eq_true c21
     by_cases c22 : x18 < (a0.length : Int)
     case neg => exact zno c22 H
     replace H := zpos c22 H
     replace c22 := eq_true c22
     obtain ⟨ad23, B23_5, d23_5, rfl, e23_0, e23_1, e23_2, e23_3, e23_4, e23_5, e23_6, m23_5, y23_5⟩ := at_T190 gp0 x18 (of_eq_true c21) (of_eq_true c22)
     have e23_0_23 := (HS.keepc e23_0)
     have e23_1_23 := (HS.keepc e23_1)
     have e23_2_23 := (HS.keepc e23_2)
     have e23_3_23 := (HS.keepc e23_3)
     have e23_4_23 := (HS.keepc e23_4)
     have e23_5_23 := (HS.keepc e23_5)
     have e23_6_23 := (HS.keepc e23_6)
     replace H := zbind H; obtain ⟨t28, ht28, H⟩ := H
     by_cases c33 : l16.length + 1 ≤ 1599289640401
     case neg => exact zno c33 H
     replace H := zpos c33 H
     replace c33 := eq_true c33
     replace H := zlets H; obtain ⟨y34, e_y34, H⟩ := H
     go_wp2_with (first | ((with_reducible refine gate_dst (N := 5) rfl ?_); refine ev_box rfl HS (by first | (go_simp; done) | (go_simp; rfl)) rfl ?_; clear HS; (try clear F); intro g5 w5 HS; replace HS : Hp noFP w _ [.own (Zd.slice 190 q190) l16 [.slice B17 l16.length d17], .box g5 [.string (⟨#[]⟩ : ByteArray), .int .i64 0, .int .i64 0, .int .i64 0, .int .i64 0, .slice none 0 0, .string (⟨#[]⟩ : ByteArray)] 190] := HS; have F := HS.boxes; simp only [boxFacts, and_true] at F) | ((with_reducible refine gate_store (p := 5) rfl ?_); refine ev_store rfl 1 0 HS (seg := [.string ((rd_T190 a0 x18).f0), .int .i64 ((rd_T190 a0 x18).f1), .int .i64 ((rd_T190 a0 x18).f2), .int .i64 ((rd_T190 a0 x18).f3), .int .i64 ((rd_T190 a0 x18).f4), .slice B23_5 (rd_T190 a0 x18).f5.length d23_5, .string ((rd_T190 a0 x18).f6)]) rfl rfl rfl rfl rfl rfl (by kernel_rfl) (by simp [wrt]) (by simp [Value.oneCell']) ?_; clear HS; (try clear F); intro w26 HS; replace HS : Hp noFP w _ [.own (Zd.slice 190 q190) l16 [.slice B17 l16.length d17], .box g5 [.string ((rd_T190 a0 x18).f0), .int .i64 ((rd_T190 a0 x18).f1), .int .i64 ((rd_T190 a0 x18).f2), .int .i64 ((rd_T190 a0 x18).f3), .int .i64 ((rd_T190 a0 x18).f4), .slice B23_5 (rd_T190 a0 x18).f5.length d23_5, .string ((rd_T190 a0 x18).f6)] 190] := HS; have F := HS.boxes; simp only [boxFacts, and_true] at F) | ((with_reducible refine gate_dst (N := 14) rfl ?_); refine ev_call rfl Try.func171 (by kernel_rfl) rfl #[.agg #[.string ((rd_T190 a0 x18).f0), .int .i64 ((rd_T190 a0 x18).f1), .int .i64 ((rd_T190 a0 x18).f2), .int .i64 ((rd_T190 a0 x18).f3), .int .i64 ((rd_T190 a0 x18).f4), .slice B23_5 (rd_T190 a0 x18).f5.length d23_5, .string ((rd_T190 a0 x18).f6)]] rfl (by simp only [List.map_toArray, List.map_cons, List.map_nil]; rfl) ?_; refine (impl_copyCrl.calls ht28.out (HS.ro y23_5) m23_5).mono ?_; rintro _ wt28 ⟨v29, rfl, HQ⟩; refine ⟨_, rfl, ?_⟩; replace HS := HS.call HQ; clear HQ; (try clear F); obtain ⟨B29, d29, rfl, m29⟩ := HS.form 2 rfl; replace HS : Hp noFP w _ [.own (Zd.slice 190 q190) l16 [.slice B17 l16.length d17], .box g5 [.string ((rd_T190 a0 x18).f0), .int .i64 ((rd_T190 a0 x18).f1), .int .i64 ((rd_T190 a0 x18).f2), .int .i64 ((rd_T190 a0 x18).f3), .int .i64 ((rd_T190 a0 x18).f4), .slice B23_5 (rd_T190 a0 x18).f5.length d23_5, .string ((rd_T190 a0 x18).f6)] 190, .own (Zd.slice 230 q230) t28.f5 [.slice B29 t28.f5.length d29]] := HS; have F := HS.boxes; simp only [boxFacts, and_true] at F) | ((with_reducible refine gate_dst (N := 15) rfl ?_); refine ev_lit rfl q190 [2] ([t28] : List S190) ([.string t28.f0, .int .i64 t28.f1, .int .i64 t28.f2, .int .i64 t28.f3, .int .i64 t28.f4, .slice B29 t28.f5.length d29, .string t28.f6] ++ []) HS (by first | (go_simp; done) | (go_simp; rfl)) rfl rfl (Nat.le_of_ble_eq_true rfl) (MadeL.cons (js1 := [2]) (c := [.string t28.f0, .int .i64 t28.f1, .int .i64 t28.f2, .int .i64 t28.f3, .int .i64 t28.f4, .slice B29 t28.f5.length d29, .string t28.f6]) rfl (fun S hd hh => q190_pack (x := t28) hd (hh 2 (.own (Zd.slice 230 q230) t28.f5 [.slice B29 t28.f5.length d29]) rfl) (by decide)) MadeL.nil (by decide)) ?_; clear HS; (try clear F); intro v31 w31 HS; obtain ⟨B31, d31, rfl, m31⟩ := HS.formn 1 3 rfl rfl; replace HS : Hp noFP w _ [.own (Zd.slice 190 q190) l16 [.slice B17 l16.length d17], .box g5 [.string ((rd_T190 a0 x18).f0), .int .i64 ((rd_T190 a0 x18).f1), .int .i64 ((rd_T190 a0 x18).f2), .int .i64 ((rd_T190 a0 x18).f3), .int .i64 ((rd_T190 a0 x18).f4), .slice B23_5 (rd_T190 a0 x18).f5.length d23_5, .string ((rd_T190 a0 x18).f6)] 190, .emp, .own (Zd.slice 190 q190) ([t28] : List S190) [.slice B31 1 d31]] := HS; have F := HS.boxes; simp only [boxFacts, and_true] at F) | ((with_reducible refine gate_dst (N := 16) rfl ?_); refine ev_append rfl q190 0 3 HS rfl rfl (by decide) rfl rfl rfl Try.underlying58 info190 rfl (by decide) (by decide) (by have := of_eq_true c33; first | omega | (simp only [List.length_cons, List.length_nil, List.length_append, Nat.zero_add] at this ⊢; omega)) ?_; clear HS; (try clear F); intro v34 w34 HS; rw [← e_y34.out] at HS; obtain ⟨B34, d34, rfl, m34⟩ := HS.form 4 rfl; replace HS : Hp noFP w _ [.emp, .box g5 [.string ((rd_T190 a0 x18).f0), .int .i64 ((rd_T190 a0 x18).f1), .int .i64 ((rd_T190 a0 x18).f2), .int .i64 ((rd_T190 a0 x18).f3), .int .i64 ((rd_T190 a0 x18).f4), .slice B23_5 (rd_T190 a0 x18).f5.length d23_5, .string ((rd_T190 a0 x18).f6)] 190, .emp, .emp, .own (Zd.slice 190 q190) y34 [.slice B34 y34.length d34]] := HS; have F := HS.boxes; simp only [boxFacts, and_true] at F))
     go_roundg k15
     case measure => have := HKk15.out; omega
     case rel => exact ⟨_, _, _, rfl, rfl, H, ⟨by have := HKk15.out; omega⟩, HS.pick [4] (by decide) (by rfl)⟩
   · replace H := zneg c20 H
     replace c20 := eq_false c20
     obtain rfl := zsome H
     go_wp2
     exact bodyPost_ret (results_single rfl (.tmp .nil)) rfl ⟨_, rfl, HS.pick [0] (by decide) (by rfl)⟩
/-! ### impl_copyStore: function 77 -/
def impl_copyStore.f (k : Nat) (a0 : S61) : Option (S61) := ((impl_copyCerts.f k a0.f0).bind fun t102001 => ((impl_copyCrls.f k a0.f1).bind fun t105001 => (if 0 + a0.f2.length ≤ 4398046511104 then (lets (([] : List S128) ++ a0.f2) fun y108999 => (some (⟨t102001, t105001, y108999⟩ : S61))) else none)))
def impl_copyStore.T1 : Bool × List (List Nat × List Nat) := (true, [([], []), ([0], [0]), ([1], [1]), ([], []), ([3], [3]), ([4, 2], [4]), ([], []), ([6], [6]), ([7, 5], [7]), ([2, 5, 8], [2, 5, 8]), ([9, 8, 0, 1, 2, 3, 4, 5, 6, 7, 8, 9], [9])])
theorem impl_copyStore.tT1 : rtab .any (opsOf Try.f77 1) = impl_copyStore.T1 := by kernel_rfl
set_option maxHeartbeats 16000000 in
theorem impl_copyStore.calls {k : Nat} {a0 : S61} {Ap0 : Option Addr} {np0 cp0 : Nat} {Ap1 : Option Addr} {np1 cp1 : Nat} {Ap2 : Option Addr} {np2 cp2 : Nat} {r : S61} {w : World} (h : impl_copyStore.f k a0 = some r) (gp0 : k192.C w Ap0 np0 a0.f0) (lp0 : np0 ≤ cp0) (gp1 : k190.C w Ap1 np1 a0.f1) (lp1 : np1 ≤ cp1) (gp2 : k128.C w Ap2 np2 a0.f2) (lp2 : np2 ≤ cp2) :
    Calls Try.prog 77 #[.agg #[.slice Ap0 np0 cp0, .slice Ap1 np1 cp1, .slice Ap2 np2 cp2]] w (fun e w' => ∃ v0_ v1_ v2_ : Value, e = .returned (.agg #[v0_, v1_, v2_]) ∧ Hp noFP w w' [.own (Zd.slice 192 q192) r.f0 [v0_], .own (Zd.slice 190 q190) r.f1 [v1_], .own (Zd.slice 128 q128) r.f2 [v2_]]) := by
 obtain rfl := C_len gp0
 obtain rfl := C_len gp1
 obtain rfl := C_len gp2
 have HS := Hp.start w
 have H := Aside0.mk h
 clear h
 unfold impl_copyStore.f at H
 go_enter Try.func77, Try.ntmps77
 go_wp2_with (first | ((with_reducible refine gate_dst (N := 1) rfl ?_); refine ev_box rfl HS (by first | (go_simp; done) | (go_simp; rfl)) rfl ?_; clear HS; (try clear F); intro g1 w1 HS; replace HS : Hp noFP w _ [.box g1 [.slice Ap0 a0.f0.length cp0, .slice Ap1 a0.f1.length cp1, .slice Ap2 a0.f2.length cp2] 61] := HS; have F := HS.boxes; simp only [boxFacts, and_true] at F) | ((with_reducible refine gate_dst (N := 2) rfl ?_); refine ev_box rfl HS (by first | (go_simp; done) | (go_simp; rfl)) rfl ?_; clear HS; (try clear F); intro g2 w2 HS; replace HS : Hp noFP w _ [.box g1 [.slice Ap0 a0.f0.length cp0, .slice Ap1 a0.f1.length cp1, .slice Ap2 a0.f2.length cp2] 61, .box g2 [.slice none 0 0, .slice none 0 0, .slice none 0 0] 61] := HS; have F := HS.boxes; simp only [boxFacts, and_true] at F))
 replace H := zbind H; obtain ⟨t102001, ht102001, H⟩ := H
 replace H := zbind H; obtain ⟨t105001, ht105001, H⟩ := H
 by_cases c108001 : 0 + a0.f2.length ≤ 4398046511104
 case neg => exact zno c108001 H
 replace H := zpos c108001 H
 replace c108001 := eq_true c108001
 replace H := zlets H; obtain ⟨y108999, e_y108999, H⟩ := H
 refine dr_start [10] HS #[false, false, false, false, false, false, false, false, false, false, false] (by kernel_rfl) rfl rfl impl_copyStore.tT1 (fun w6 HT HS HH => ?_)
 (try clear F)
 refine drq_of [(0, some 3), (1, some 4), (3, some 6), (4, some 7), (6, some 9), (7, some 10)] ?_
 repeat (first | (refine drq_pure HT (v := ?_) (a' := ?_) rfl rfl (by kernel_rfl) (fun _ _ _ h => h) (.inl ⟨by rfl, ?_⟩) ?_ ?_; rotate_left; (intro w'; go_simp; with_reducible rfl); rotate_left; (simp only [Act.put, List.setIfInBounds_toArray, List.set_cons_zero, List.set_cons_succ, i64_w, i32_w]; rfl)) | (refine drq_take HT HH (v := ?_) (a' := ?_) rfl rfl (by kernel_rfl) (fun _ _ _ h => h) (.inl ⟨by rfl, ?_⟩) ?_ ?_; rotate_left; (rintro w' ⟨rs', HS'⟩; have F := HS'.boxes; simp only [boxFacts, List.cons_append, List.nil_append, and_true] at F; go_simp; with_reducible rfl); rotate_left; (simp only [Act.put, List.setIfInBounds_toArray, List.set_cons_zero, List.set_cons_succ, i64_w, i32_w]; rfl)))
 refine drq_end ?_
 refine dr_one 2 HT rfl (by kernel_rfl) (by decide) (fun K hK => ?_)
 refine goes_ Try.func134 (by kernel_rfl) rfl #[.slice Ap0 a0.f0.length cp0] (by rfl) rfl rfl (by simp only [List.map_toArray, List.map_cons, List.map_nil]; rfl) ?_; refine (impl_copyCerts.calls ht102001.out (HS.ro gp0) lp0).mono ?_; rintro _ wt102001 ⟨v102002, rfl, HQ⟩; refine ⟨_, rfl, ?_⟩; replace HS := HS.call HQ; clear HQ; (try clear F); obtain ⟨B102002, d102002, rfl, m102002⟩ := HS.form 2 rfl
 replace HS : Hp noFP w _ [.box g1 [.slice Ap0 a0.f0.length cp0, .slice Ap1 a0.f1.length cp1, .slice Ap2 a0.f2.length cp2] 61, .box g2 [.slice none 0 0, .slice none 0 0, .slice none 0 0] 61, .own (Zd.slice 192 q192) t102001 [.slice B102002 t102001.length d102002]] := HS
 have F := HS.boxes; simp only [boxFacts, and_true] at F
 refine hK.out _ _ ⟨_, HS⟩ (fun HH => ?_)
 clear hK K
 refine norm_ (a' := ?_) ?_ ?_
 rotate_left
 · show Act.put _ (some 5) _ = _; simp only [Act.put, List.setIfInBounds_toArray, List.set_cons_zero, List.set_cons_succ, i64_w, i32_w]; rfl
 refine dr_one 5 HT rfl (by kernel_rfl) (by decide) (fun K hK => ?_)
 refine goes_ Try.func135 (by kernel_rfl) rfl #[.slice Ap1 a0.f1.length cp1] (by rfl) rfl rfl (by simp only [List.map_toArray, List.map_cons, List.map_nil]; rfl) ?_; refine (impl_copyCrls.calls ht105001.out (HS.ro gp1) lp1).mono ?_; rintro _ wt105001 ⟨v105002, rfl, HQ⟩; refine ⟨_, rfl, ?_⟩; replace HS := HS.call HQ; clear HQ; (try clear F); obtain ⟨B105002, d105002, rfl, m105002⟩ := HS.form 3 rfl
 replace HS : Hp noFP w _ [.box g1 [.slice Ap0 a0.f0.length cp0, .slice Ap1 a0.f1.length cp1, .slice Ap2 a0.f2.length cp2] 61, .box g2 [.slice none 0 0, .slice none 0 0, .slice none 0 0] 61, .own (Zd.slice 192 q192) t102001 [.slice B102002 t102001.length d102002], .own (Zd.slice 190 q190) t105001 [.slice B105002 t105001.length d105002]] := HS
 have F := HS.boxes; simp only [boxFacts, and_true] at F
 refine hK.out _ _ ⟨_, HS⟩ (fun HH => ?_)
 clear hK K
 refine norm_ (a' := ?_) ?_ ?_
 rotate_left
 · show Act.put _ (some 8) _ = _; simp only [Act.put, List.setIfInBounds_toArray, List.set_cons_zero, List.set_cons_succ, i64_w, i32_w]; rfl
 refine dr_one 8 HT rfl (by kernel_rfl) (by decide) (fun K hK => ?_)
 refine if_wp (by rfl) ?_; replace HS := HS.nil 128 q128; refine wp_appendr q128 fl128 4 HS rfl (HS.ro gp2) rfl rfl rfl Try.underlying59 info128 rfl (by decide) (by decide) (by have := of_eq_true c108001; first | omega | (simp only [List.length_cons, List.length_nil, List.length_append, Nat.zero_add] at this ⊢; omega)) ?_; clear HS; (try clear F); intro v108999 w108999 HS; rw [← e_y108999.out] at HS; obtain ⟨B108999, d108999, rfl, m108999⟩ := HS.form 5 rfl
 replace HS : Hp noFP w _ [.box g1 [.slice Ap0 a0.f0.length cp0, .slice Ap1 a0.f1.length cp1, .slice Ap2 a0.f2.length cp2] 61, .box g2 [.slice none 0 0, .slice none 0 0, .slice none 0 0] 61, .own (Zd.slice 192 q192) t102001 [.slice B102002 t102001.length d102002], .own (Zd.slice 190 q190) t105001 [.slice B105002 t105001.length d105002], .emp, .own (Zd.slice 128 q128) y108999 [.slice B108999 y108999.length d108999]] := HS
 have F := HS.boxes; simp only [boxFacts, and_true] at F
 refine hK.out _ _ ⟨_, HS⟩ (fun HH => ?_)
 clear hK K
 refine norm_ (a' := ?_) ?_ ?_
 rotate_left
 · show Act.put _ (some 11) _ = _; simp only [Act.put, List.setIfInBounds_toArray, List.set_cons_zero, List.set_cons_succ, i64_w, i32_w]; rfl
 refine drq_of [(9, some 12)] ?_
 repeat (first | (refine drq_pure HT (v := ?_) (a' := ?_) rfl rfl (by kernel_rfl) (fun _ _ _ h => h) (.inl ⟨by rfl, ?_⟩) ?_ ?_; rotate_left; (intro w'; go_simp; with_reducible rfl); rotate_left; (simp only [Act.put, List.setIfInBounds_toArray, List.set_cons_zero, List.set_cons_succ, i64_w, i32_w]; rfl)))
 refine drq_end ?_
 refine dr_last 10 HT rfl (by kernel_rfl) (by decide) (fun K hK => ?_)
 refine if_wp (by rfl) ?_; refine wp_store 1 0 HS (seg := [.slice B102002 t102001.length d102002, .slice B105002 t105001.length d105002, .slice B108999 y108999.length d108999]) rfl rfl rfl rfl rfl rfl (by kernel_rfl) (by simp [wrt]) (by simp [Value.oneCell']) ?_; clear HS; (try clear F); intro w110001 HS
 replace HS : Hp noFP w _ [.box g1 [.slice Ap0 a0.f0.length cp0, .slice Ap1 a0.f1.length cp1, .slice Ap2 a0.f2.length cp2] 61, .box g2 [.slice B102002 t102001.length d102002, .slice B105002 t105001.length d105002, .slice B108999 y108999.length d108999] 61, .own (Zd.slice 192 q192) t102001 [.slice B102002 t102001.length d102002], .own (Zd.slice 190 q190) t105001 [.slice B105002 t105001.length d105002], .emp, .own (Zd.slice 128 q128) y108999 [.slice B108999 y108999.length d108999]] := HS
 have F := HS.boxes; simp only [boxFacts, and_true] at F
 refine hK.out _ _ ?_
 clear hK K
 refine done_ (done_of HT.out (by kernel_rfl)) ?_
 (try clear F)
 have F := HS.boxes; simp only [boxFacts, and_true] at F
 obtain rfl := zsome H
 go_wp2
 exact bodyPost_ret (results_single rfl (.cell _ _ _ _ _ rfl (HS.boxAt (i := 1) rfl) Try.underlying61 rfl (by kernel_rfl) .nil)) rfl ⟨_, _, _, rfl, HS.pick [2, 3, 5] (by decide) (by rfl)⟩
/-! ### impl_within: function 78 -/
def impl_within.f (a0 : Int) (a1 : Int) (a2 : Int) : Option (Bool) := (if a1 ≤ a0 then (some (decide (a0 ≤ a2))) else (some false))
set_option maxHeartbeats 16000000 in
theorem impl_within.calls {a0 : Int} {a1 : Int} {a2 : Int} {r : Bool} {w : World} (h : impl_within.f a0 a1 a2 = some r) :
    Calls Try.prog 78 #[.int .i64 a0, .int .i64 a1, .int .i64 a2] w (fun e w' => e = .returned (.bool r) ∧ Hp noFP w w' []) := by
 have HS := Hp.start w
 have H := Aside0.mk h
 clear h
 unfold impl_within.f at H
 go_enter Try.func78, Try.ntmps78
 by_cases c1 : a1 ≤ a0
 · replace H := zpos c1 H
   replace c1 := eq_true c1
   obtain rfl := zsome H
   go_wp2
   go_ret
   exact ⟨rfl, HS.pick [] (by decide) (by rfl)⟩
 · replace H := zneg c1 H
   replace c1 := eq_false c1
   obtain rfl := zsome H
   go_wp2
   go_ret
   exact ⟨rfl, HS.pick [] (by decide) (by rfl)⟩
/-! ### impl_Trusting: function 24 -/
def impl_Trusting.l0 : Nat → (List S128) → Int → S61 → S66 → S61 → Option (S61)
  | 0, _, _, _, _, _ => none
  | k + 1, l36, x38, a0, a1, t7 => (if x38 < (a1.f1.length : Int) then (if 0 ≤ x38 then (if x38 < (a1.f1.length : Int) then ((impl_within.f (rd a1.f1 x38) 0 (wrap64 ((a0.f2.length : Int) - 1))).bind fun t44 => (if t44 = true then (if 0 ≤ (rd a1.f1 x38) then (if (rd a1.f1 x38) < (a0.f2.length : Int) then (if l36.length + 1 ≤ 4398046511104 then (lets (l36 ++ ([(rd_T128 a0.f2 (rd a1.f1 x38))] : List S128)) fun y208999 => (impl_Trusting.l0 k y208999 (wrap64 (x38 + 1)) a0 a1 t7)) else none) else none) else none) else (impl_Trusting.l0 k l36 (wrap64 (x38 + 1)) a0 a1 t7))) else none) else none) else (some (⟨t7.f0, t7.f1, l36⟩ : S61)))
def impl_Trusting.f (k : Nat) (a0 : S61) (a1 : S66) : Option (S61) := ((impl_copyStore.f k a0).bind fun t7 => (impl_Trusting.l0 k [] 0 a0 a1 t7))
def impl_Trusting.T7 : Bool × List (List Nat × List Nat) := (true, [([], []), ([0], [0]), ([], []), ([2], [2]), ([], []), ([3, 4], [3, 4]), ([5], [5]), ([6], [6]), ([1, 7], [1, 7]), ([0, 1, 2, 3, 4, 5, 6, 7, 8], []), ([9, 8, 8, 0, 1, 2, 3, 4, 5, 6, 7, 8], [8, 9])])
theorem impl_Trusting.tT7 : rtab .any (opsOf Try.f24 7) = impl_Trusting.T7 := by kernel_rfl
set_option maxHeartbeats 16000000 in
theorem impl_Trusting.calls {k : Nat} {a0 : S61} {a1 : S66} {Ap0 : Option Addr} {np0 cp0 : Nat} {Ap1 : Option Addr} {np1 cp1 : Nat} {Ap2 : Option Addr} {np2 cp2 : Nat} {Ap3 : Option Addr} {np3 cp3 : Nat} {Ap4 : Option Addr} {np4 cp4 : Nat} {r : S61} {w : World} (h : impl_Trusting.f k a0 a1 = some r) (gp0 : k192.C w Ap0 np0 a0.f0) (lp0 : np0 ≤ cp0) (gp1 : k190.C w Ap1 np1 a0.f1) (lp1 : np1 ≤ cp1) (gp2 : k128.C w Ap2 np2 a0.f2) (lp2 : np2 ≤ cp2) (gp3 : (Kd.int .i64).C w Ap3 np3 a1.f1) (lp3 : np3 ≤ cp3) (gp4 : (Kd.int .i64).C w Ap4 np4 a1.f2.f1) (lp4 : np4 ≤ cp4) :
    Calls Try.prog 24 #[.agg #[.slice Ap0 np0 cp0, .slice Ap1 np1 cp1, .slice Ap2 np2 cp2], .agg #[.int .i64 a1.f0, .slice Ap3 np3 cp3, .int .i64 a1.f2.f0, .slice Ap4 np4 cp4, .bool a1.f2.f2, .bool a1.f2.f3, .int .i64 a1.f2.f4]] w (fun e w' => ∃ v0_ v1_ v2_ : Value, e = .returned (.agg #[v0_, v1_, v2_]) ∧ Hp noFP w w' [.own (Zd.slice 192 q192) r.f0 [v0_], .own (Zd.slice 190 q190) r.f1 [v1_], .own (Zd.slice 128 q128) r.f2 [v2_]]) := by
 obtain rfl := C_len gp0
 obtain rfl := C_len gp1
 obtain rfl := C_len gp2
 obtain rfl := C_len gp3
 obtain rfl := C_len gp4
 have HS := Hp.start w
 have H := Aside0.mk h
 clear h
 unfold impl_Trusting.f at H
 go_enter Try.func24, Try.ntmps24
 replace H := zbind H; obtain ⟨t7, ht7, H⟩ := H
 go_wp2_with (first | ((with_reducible refine gate_dst (N := 2) rfl ?_); refine ev_box rfl HS (by first | (go_simp; done) | (go_simp; rfl)) rfl ?_; clear HS; (try clear F); intro g2 w2 HS; replace HS : Hp noFP w _ [.box g2 [.slice Ap0 a0.f0.length cp0, .slice Ap1 a0.f1.length cp1, .slice Ap2 a0.f2.length cp2] 61] := HS; have F := HS.boxes; simp only [boxFacts, and_true] at F) | ((with_reducible refine gate_dst (N := 3) rfl ?_); refine ev_box rfl HS (by first | (go_simp; done) | (go_simp; rfl)) rfl ?_; clear HS; (try clear F); intro g3 w3 HS; replace HS : Hp noFP w _ [.box g2 [.slice Ap0 a0.f0.length cp0, .slice Ap1 a0.f1.length cp1, .slice Ap2 a0.f2.length cp2] 61, .box g3 [.int .i64 a1.f0, .slice Ap3 a1.f1.length cp3, .int .i64 a1.f2.f0, .slice Ap4 a1.f2.f1.length cp4, .bool a1.f2.f2, .bool a1.f2.f3, .int .i64 a1.f2.f4] 66] := HS; have F := HS.boxes; simp only [boxFacts, and_true] at F) | ((with_reducible refine gate_dst (N := 4) rfl ?_); refine ev_box rfl HS (by first | (go_simp; done) | (go_simp; rfl)) rfl ?_; clear HS; (try clear F); intro g4 w4 HS; replace HS : Hp noFP w _ [.box g2 [.slice Ap0 a0.f0.length cp0, .slice Ap1 a0.f1.length cp1, .slice Ap2 a0.f2.length cp2] 61, .box g3 [.int .i64 a1.f0, .slice Ap3 a1.f1.length cp3, .int .i64 a1.f2.f0, .slice Ap4 a1.f2.f1.length cp4, .bool a1.f2.f2, .bool a1.f2.f3, .int .i64 a1.f2.f4] 66, .box g4 [.slice none 0 0, .slice none 0 0, .slice none 0 0] 61] := HS; have F := HS.boxes; simp only [boxFacts, and_true] at F) | ((with_reducible refine gate_dst (N := 9) rfl ?_); refine ev_call rfl Try.func77 (by kernel_rfl) rfl #[.agg #[.slice Ap0 a0.f0.length cp0, .slice Ap1 a0.f1.length cp1, .slice Ap2 a0.f2.length cp2]] rfl (by simp only [List.map_toArray, List.map_cons, List.map_nil]; rfl) ?_; refine (impl_copyStore.calls ht7.out (HS.ro gp0) lp0 (HS.ro gp1) lp1 (HS.ro gp2) lp2).mono ?_; rintro _ wt7 ⟨v8, v9, v10, rfl, HQ⟩; refine ⟨_, rfl, ?_⟩; replace HS := HS.call HQ; clear HQ; (try clear F); obtain ⟨B8, d8, rfl, m8⟩ := HS.form 3 rfl; obtain ⟨B9, d9, rfl, m9⟩ := HS.form 4 rfl; obtain ⟨B10, d10, rfl, m10⟩ := HS.form 5 rfl; replace HS : Hp noFP w _ [.box g2 [.slice Ap0 a0.f0.length cp0, .slice Ap1 a0.f1.length cp1, .slice Ap2 a0.f2.length cp2] 61, .box g3 [.int .i64 a1.f0, .slice Ap3 a1.f1.length cp3, .int .i64 a1.f2.f0, .slice Ap4 a1.f2.f1.length cp4, .bool a1.f2.f2, .bool a1.f2.f3, .int .i64 a1.f2.f4] 66, .box g4 [.slice none 0 0, .slice none 0 0, .slice none 0 0] 61, .own (Zd.slice 192 q192) t7.f0 [.slice B8 t7.f0.length d8], .own (Zd.slice 190 q190) t7.f1 [.slice B9 t7.f1.length d9], .own (Zd.slice 128 q128) t7.f2 [.slice B10 t7.f2.length d10]] := HS; have F := HS.boxes; simp only [boxFacts, and_true] at F) | ((with_reducible refine gate_dst (N := 5) rfl ?_); refine ev_box rfl HS (by first | (go_simp; done) | (go_simp; rfl)) rfl ?_; clear HS; (try clear F); intro g5 w5 HS; replace HS : Hp noFP w _ [.box g2 [.slice Ap0 a0.f0.length cp0, .slice Ap1 a0.f1.length cp1, .slice Ap2 a0.f2.length cp2] 61, .box g3 [.int .i64 a1.f0, .slice Ap3 a1.f1.length cp3, .int .i64 a1.f2.f0, .slice Ap4 a1.f2.f1.length cp4, .bool a1.f2.f2, .bool a1.f2.f3, .int .i64 a1.f2.f4] 66, .box g4 [.slice none 0 0, .slice none 0 0, .slice none 0 0] 61, .own (Zd.slice 192 q192) t7.f0 [.slice B8 t7.f0.length d8], .own (Zd.slice 190 q190) t7.f1 [.slice B9 t7.f1.length d9], .own (Zd.slice 128 q128) t7.f2 [.slice B10 t7.f2.length d10], .box g5 [.slice none 0 0, .slice none 0 0, .slice none 0 0] 61] := HS; have F := HS.boxes; simp only [boxFacts, and_true] at F) | ((with_reducible refine gate_store (p := 5) rfl ?_); refine ev_store rfl 6 0 HS (seg := [.slice B8 t7.f0.length d8, .slice B9 t7.f1.length d9, .slice B10 t7.f2.length d10]) rfl rfl rfl rfl rfl rfl (by kernel_rfl) (by simp [wrt]) (by simp [Value.oneCell']) ?_; clear HS; (try clear F); intro w14 HS; replace HS : Hp noFP w _ [.box g2 [.slice Ap0 a0.f0.length cp0, .slice Ap1 a0.f1.length cp1, .slice Ap2 a0.f2.length cp2] 61, .box g3 [.int .i64 a1.f0, .slice Ap3 a1.f1.length cp3, .int .i64 a1.f2.f0, .slice Ap4 a1.f2.f1.length cp4, .bool a1.f2.f2, .bool a1.f2.f3, .int .i64 a1.f2.f4] 66, .box g4 [.slice none 0 0, .slice none 0 0, .slice none 0 0] 61, .own (Zd.slice 192 q192) t7.f0 [.slice B8 t7.f0.length d8], .own (Zd.slice 190 q190) t7.f1 [.slice B9 t7.f1.length d9], .own (Zd.slice 128 q128) t7.f2 [.slice B10 t7.f2.length d10], .box g5 [.slice B8 t7.f0.length d8, .slice B9 t7.f1.length d9, .slice B10 t7.f2.length d10] 61] := HS; have F := HS.boxes; simp only [boxFacts, and_true] at F) | ((with_reducible refine gate_store (p := 10) rfl ?_); refine ev_store rfl 6 2 HS (seg := [.slice none 0 0]) rfl rfl rfl rfl rfl rfl (by kernel_rfl) (by simp [wrt]) (by simp [Value.oneCell']) ?_; clear HS; (try clear F); intro w16 HS; replace HS : Hp noFP w _ [.box g2 [.slice Ap0 a0.f0.length cp0, .slice Ap1 a0.f1.length cp1, .slice Ap2 a0.f2.length cp2] 61, .box g3 [.int .i64 a1.f0, .slice Ap3 a1.f1.length cp3, .int .i64 a1.f2.f0, .slice Ap4 a1.f2.f1.length cp4, .bool a1.f2.f2, .bool a1.f2.f3, .int .i64 a1.f2.f4] 66, .box g4 [.slice none 0 0, .slice none 0 0, .slice none 0 0] 61, .own (Zd.slice 192 q192) t7.f0 [.slice B8 t7.f0.length d8], .own (Zd.slice 190 q190) t7.f1 [.slice B9 t7.f1.length d9], .own (Zd.slice 128 q128) t7.f2 [.slice B10 t7.f2.length d10], .box g5 [.slice B8 t7.f0.length d8, .slice B9 t7.f1.length d9, .slice none 0 0] 61] := HS; have F := HS.boxes; simp only [boxFacts, and_true] at F))
 replace HS := HS.nil 128 q128
 go_loopg [14] k (fun kq v_14 w' => ∃ (l36 : List S128) (v37 : Value) (x38 : Int), v_14 = .int .i64 x38 ∧ Aside0 (impl_Trusting.l0 kq l36 x38 a0 a1 t7 = some r) ∧ Aside0 (kq ≤ k) ∧ Hp noFP w w' [.box g2 [.slice Ap0 a0.f0.length cp0, .slice Ap1 a0.f1.length cp1, .slice Ap2 a0.f2.length cp2] 61, .box g3 [.int .i64 a1.f0, .slice Ap3 a1.f1.length cp3, .int .i64 a1.f2.f0, .slice Ap4 a1.f2.f1.length cp4, .bool a1.f2.f2, .bool a1.f2.f3, .int .i64 a1.f2.f4] 66, .box g4 [.slice none 0 0, .slice none 0 0, .slice none 0 0] 61, .own (Zd.slice 192 q192) t7.f0 [.slice B8 t7.f0.length d8], .own (Zd.slice 190 q190) t7.f1 [.slice B9 t7.f1.length d9], .own (Zd.slice 128 q128) t7.f2 [.slice B10 t7.f2.length d10], .box g5 [.slice B8 t7.f0.length d8, .slice B9 t7.f1.length d9, v37] 61, .own (Zd.slice 128 q128) l36 [v37]])
 case atStart => exact ⟨_, _, _, rfl, H, ⟨Nat.le_refl _⟩, HS⟩
 case round =>
  clear HS H; (try clear F)
  obtain ⟨l36, v37, x38, rfl, H, HKk35, HS⟩ := hrel
  obtain ⟨B37, d37, rfl, m37⟩ := HS.form 7 rfl
  have F := HS.boxes; simp only [boxFacts, and_true] at F
  cases gk with
  | zero => exact absurd H.out (by simp [impl_Trusting.l0])
  | succ k35 =>
   simp only [impl_Trusting.l0] at H
   by_cases c40 : x38 < (a1.f1.length : Int)
   · replace H := zpos c40 H
     replace c40 := eq_true c40
     by_cases c41 : 0 ≤ x38
     case neg => exact zno c41 H
     replace H := zpos c41 H
     replace c41 := eq_true c41
     by_cases c42 : x38 < (a1.f1.length : Int)
     case neg => exact zno c42 H
     replace H := zpos c42 H
     replace c42 := eq_true c42
     obtain ⟨ad43, rfl, e43_0⟩ := Kd.at_int gp3 x38 (of_eq_true c41) (of_eq_true c42)
     have e43_0_43 := (HS.keepc e43_0)
     replace H := zbind H; obtain ⟨t44, ht44, H⟩ := H
     go_upto_if 23 with (first | ((with_reducible refine gate_dst (N := 23) rfl ?_); refine ev_call rfl Try.func78 (by kernel_rfl) rfl #[.int .i64 (rd a1.f1 x38), .int .i64 0, .int .i64 (wrap64 ((a0.f2.length : Int) - 1))] rfl (by simp only [List.map_toArray, List.map_cons, List.map_nil]; rfl) ?_; refine (impl_within.calls ht44.out).mono ?_; rintro _ wt44 ⟨rfl, HQ⟩; refine ⟨_, rfl, ?_⟩; replace HS := HS.call HQ; clear HQ; (try clear F); replace HS : Hp noFP w _ [.box g2 [.slice Ap0 a0.f0.length cp0, .slice Ap1 a0.f1.length cp1, .slice Ap2 a0.f2.length cp2] 61, .box g3 [.int .i64 a1.f0, .slice (some ad43) a1.f1.length cp3, .int .i64 a1.f2.f0, .slice Ap4 a1.f2.f1.length cp4, .bool a1.f2.f2, .bool a1.f2.f3, .int .i64 a1.f2.f4] 66, .box g4 [.slice none 0 0, .slice none 0 0, .slice none 0 0] 61, .own (Zd.slice 192 q192) t7.f0 [.slice B8 t7.f0.length d8], .own (Zd.slice 190 q190) t7.f1 [.slice B9 t7.f1.length d9], .own (Zd.slice 128 q128) t7.f2 [.slice B10 t7.f2.length d10], .box g5 [.slice B8 t7.f0.length d8, .slice B9 t7.f1.length d9, .slice B37 l36.length d37] 61, .own (Zd.slice 128 q128) l36 [.slice B37 l36.length d37]] := HS; have F := HS.boxes; simp only [boxFacts, and_true] at F))
     by_cases c46 : t44 = true
     · replace H := zpos c46 H
       subst c46
       (try simp only [decide_true, decide_false, Bool.not_true, Bool.not_false, if_true, Bool.false_eq_true, if_false])
       (try go_wp2)
       by_cases c205001 : 0 ≤ (rd a1.f1 x38)
       case neg => exact zno c205001 H
       replace H := zpos c205001 H
       replace c205001 := eq_true c205001
       by_cases c205002 : (rd a1.f1 x38) < (a0.f2.length : Int)
       case neg => exact zno c205002 H
       replace H := zpos c205002 H
       replace c205002 := eq_true c205002
       obtain ⟨ad205999, rfl, e205999_0, e205999_1⟩ := at_T128 gp2 (rd a1.f1 x38) (of_eq_true c205001) (of_eq_true c205002)
       by_cases c208001 : l36.length + 1 ≤ 4398046511104
       case neg => exact zno c208001 H
       replace H := zpos c208001 H
       replace c208001 := eq_true c208001
       replace H := zlets H; obtain ⟨y208999, e_y208999, H⟩ := H
       refine dr_start2 [.box g2 [.slice Ap0 a0.f0.length cp0, .slice Ap1 a0.f1.length cp1, .slice (some ad205999) a0.f2.length cp2] 61, .box g3 [.int .i64 a1.f0, .slice (some ad43) a1.f1.length cp3, .int .i64 a1.f2.f0, .slice Ap4 a1.f2.f1.length cp4, .bool a1.f2.f2, .bool a1.f2.f3, .int .i64 a1.f2.f4] 66, .box g4 [.slice none 0 0, .slice none 0 0, .slice none 0 0] 61, .own (Zd.slice 192 q192) t7.f0 [.slice B8 t7.f0.length d8], .own (Zd.slice 190 q190) t7.f1 [.slice B9 t7.f1.length d9], .own (Zd.slice 128 q128) t7.f2 [.slice B10 t7.f2.length d10], .box g5 [.slice B8 t7.f0.length d8, .slice B9 t7.f1.length d9, .slice B37 l36.length d37] 61, .emp] [10] HS (HS.arr [some 0, some 1, some 2, some 3, some 4, some 5, some 6, none] (by decide)) #[false, false, false, false, false, false, false, false, false, false, false] (by kernel_rfl) rfl rfl impl_Trusting.tT7 (fun w48 HT HS HH => ?_)
       (try clear F)
       refine drq_of [(0, some 24), (1, some 25), (2, some 26), (3, some 27), (4, some 28), (5, some 29)] ?_
       repeat (first | (refine drq_pure HT (v := ?_) (a' := ?_) rfl rfl (by kernel_rfl) (fun _ _ _ h => h) (.inl ⟨by rfl, ?_⟩) ?_ ?_; rotate_left; (intro w'; go_simp; with_reducible rfl); rotate_left; (simp only [Act.put, List.setIfInBounds_toArray, List.set_cons_zero, List.set_cons_succ, i64_w, i32_w]; rfl)) | (refine drq_take HT HH (v := ?_) (a' := ?_) rfl rfl (by kernel_rfl) (fun _ _ _ h => h) (.inl ⟨by rfl, ?_⟩) ?_ ?_; rotate_left; (rintro w' ⟨rs', HS'⟩; have F := HS'.boxes; simp only [boxFacts, List.cons_append, List.nil_append, and_true] at F; go_simp; with_reducible rfl); rotate_left; (simp only [Act.put, List.setIfInBounds_toArray, List.set_cons_zero, List.set_cons_succ, i64_w, i32_w]; rfl)))
       refine drq_end ?_
       refine dr_take 6 (some 30) HT HH (v := ?_) (a' := ?_) rfl rfl (by kernel_rfl) (fun _ _ _ h => h) (.inl ⟨by rfl, ?_⟩) ?_ ?_
       rotate_left
       · rintro w' ⟨rs', HS'⟩; have e205999_0 := (HS'.keepc e205999_0); have e205999_1 := (HS'.keepc e205999_1); go_simp; with_reducible rfl
       rotate_left
       · simp only [Act.put, List.setIfInBounds_toArray, List.set_cons_zero, List.set_cons_succ, i64_w, i32_w]; rfl
       refine dr_one 7 HT rfl (by kernel_rfl) (by decide) (fun K hK => ?_)
       refine if_wp (by rfl) ?_; refine wp_lit q128 [] ([(rd_T128 a0.f2 (rd a1.f1 x38))] : List S128) ([.string ((rd_T128 a0.f2 (rd a1.f1 x38)).f0), .string ((rd_T128 a0.f2 (rd a1.f1 x38)).f1)] ++ []) HS (by first | (go_simp; done) | (go_simp; rfl)) rfl rfl (Nat.le_of_ble_eq_true rfl) (MadeL.cons (js1 := []) (c := [.string ((rd_T128 a0.f2 (rd a1.f1 x38)).f0), .string ((rd_T128 a0.f2 (rd a1.f1 x38)).f1)]) rfl (made_flat (fun _ => q128_flat _ _ _)) MadeL.nil (by decide)) ?_; clear HS; (try clear F); intro v207001 w207001 HS; obtain ⟨B207001, d207001, rfl, m207001⟩ := HS.formn 1 8 rfl rfl
       replace HS : Hp noFP w _ [.box g2 [.slice Ap0 a0.f0.length cp0, .slice Ap1 a0.f1.length cp1, .slice (some ad205999) a0.f2.length cp2] 61, .box g3 [.int .i64 a1.f0, .slice (some ad43) a1.f1.length cp3, .int .i64 a1.f2.f0, .slice Ap4 a1.f2.f1.length cp4, .bool a1.f2.f2, .bool a1.f2.f3, .int .i64 a1.f2.f4] 66, .box g4 [.slice none 0 0, .slice none 0 0, .slice none 0 0] 61, .own (Zd.slice 192 q192) t7.f0 [.slice B8 t7.f0.length d8], .own (Zd.slice 190 q190) t7.f1 [.slice B9 t7.f1.length d9], .own (Zd.slice 128 q128) t7.f2 [.slice B10 t7.f2.length d10], .box g5 [.slice B8 t7.f0.length d8, .slice B9 t7.f1.length d9, .slice B37 l36.length d37] 61, .own (Zd.slice 128 q128) l36 [.slice B37 l36.length d37], .own (Zd.slice 128 q128) ([(rd_T128 a0.f2 (rd a1.f1 x38))] : List S128) [.slice B207001 1 d207001]] := HS
       have F := HS.boxes; simp only [boxFacts, and_true] at F
       refine hK.out _ _ ⟨[], HS.arr [some 0, some 1, some 2, some 3, some 4, some 5, some 6, none] (by decide)⟩ (fun HH => ?_)
       clear hK K
       refine norm_ (a' := ?_) ?_ ?_
       rotate_left
       · show Act.put _ (some 31) _ = _; simp only [Act.put, List.setIfInBounds_toArray, List.set_cons_zero, List.set_cons_succ, i64_w, i32_w]; rfl
       refine dr_one 8 HT rfl (by kernel_rfl) (by decide) (fun K hK => ?_)
       refine if_wp (by rfl) ?_; refine wp_append q128 7 8 HS rfl rfl (by decide) rfl rfl rfl Try.underlying59 info128 rfl (by decide) (by decide) (by have := of_eq_true c208001; first | omega | (simp only [List.length_cons, List.length_nil, List.length_append, Nat.zero_add] at this ⊢; omega)) ?_; clear HS; (try clear F); intro v208999 w208999 HS; rw [← e_y208999.out] at HS; obtain ⟨B208999, d208999, rfl, m208999⟩ := HS.form 9 rfl
       replace HS : Hp noFP w _ [.box g2 [.slice Ap0 a0.f0.length cp0, .slice Ap1 a0.f1.length cp1, .slice (some ad205999) a0.f2.length cp2] 61, .box g3 [.int .i64 a1.f0, .slice (some ad43) a1.f1.length cp3, .int .i64 a1.f2.f0, .slice Ap4 a1.f2.f1.length cp4, .bool a1.f2.f2, .bool a1.f2.f3, .int .i64 a1.f2.f4] 66, .box g4 [.slice none 0 0, .slice none 0 0, .slice none 0 0] 61, .own (Zd.slice 192 q192) t7.f0 [.slice B8 t7.f0.length d8], .own (Zd.slice 190 q190) t7.f1 [.slice B9 t7.f1.length d9], .own (Zd.slice 128 q128) t7.f2 [.slice B10 t7.f2.length d10], .box g5 [.slice B8 t7.f0.length d8, .slice B9 t7.f1.length d9, .slice B37 l36.length d37] 61, .emp, .emp, .own (Zd.slice 128 q128) y208999 [.slice B208999 y208999.length d208999]] := HS
       have F := HS.boxes; simp only [boxFacts, and_true] at F
       refine hK.out _ _ ⟨[], HS.arr [some 0, some 1, some 2, some 3, some 4, some 5, some 6, none] (by decide)⟩ (fun HH => ?_)
       clear hK K
       refine norm_ (a' := ?_) ?_ ?_
       rotate_left
       · show Act.put _ (some 32) _ = _; simp only [Act.put, List.setIfInBounds_toArray, List.set_cons_zero, List.set_cons_succ, i64_w, i32_w]; rfl
       refine drq_of [(9, some 33)] ?_
       repeat (first | (refine drq_pure HT (v := ?_) (a' := ?_) rfl rfl (by kernel_rfl) (fun _ _ _ h => h) (.inl ⟨by rfl, ?_⟩) ?_ ?_; rotate_left; (intro w'; go_simp; with_reducible rfl); rotate_left; (simp only [Act.put, List.setIfInBounds_toArray, List.set_cons_zero, List.set_cons_succ, i64_w, i32_w]; rfl)))
       refine drq_end ?_
       refine dr_last 10 HT rfl (by kernel_rfl) (by decide) (fun K hK => ?_)
       refine if_wp (by rfl) ?_; refine wp_store 6 2 HS (seg := [.slice B208999 y208999.length d208999]) rfl rfl rfl rfl rfl rfl (by kernel_rfl) (by simp [wrt]) (by simp [Value.oneCell']) ?_; clear HS; (try clear F); intro w210001 HS
       replace HS : Hp noFP w _ [.box g2 [.slice Ap0 a0.f0.length cp0, .slice Ap1 a0.f1.length cp1, .slice (some ad205999) a0.f2.length cp2] 61, .box g3 [.int .i64 a1.f0, .slice (some ad43) a1.f1.length cp3, .int .i64 a1.f2.f0, .slice Ap4 a1.f2.f1.length cp4, .bool a1.f2.f2, .bool a1.f2.f3, .int .i64 a1.f2.f4] 66, .box g4 [.slice none 0 0, .slice none 0 0, .slice none 0 0] 61, .own (Zd.slice 192 q192) t7.f0 [.slice B8 t7.f0.length d8], .own (Zd.slice 190 q190) t7.f1 [.slice B9 t7.f1.length d9], .own (Zd.slice 128 q128) t7.f2 [.slice B10 t7.f2.length d10], .box g5 [.slice B8 t7.f0.length d8, .slice B9 t7.f1.length d9, .slice B208999 y208999.length d208999] 61, .emp, .emp, .own (Zd.slice 128 q128) y208999 [.slice B208999 y208999.length d208999]] := HS
       have F := HS.boxes; simp only [boxFacts, and_true] at F
       refine hK.out _ _ ?_
       clear hK K
       refine done_ (done_of HT.out (by kernel_rfl)) ?_
       (try clear F)
       have F := HS.boxes; simp only [boxFacts, and_true] at F
       go_wp2
       go_roundg k35
       case measure => have := HKk35.out; omega
       case rel => exact ⟨_, _, _, rfl, H, ⟨by have := HKk35.out; omega⟩, HS.pick [0, 1, 2, 3, 4, 5, 6, 9] (by decide) (by rfl)⟩
     · replace H := zneg c46 H
       replace c46 := eq_false_of_ne_true c46
       subst c46
       (try simp only [decide_true, decide_false, Bool.not_true, Bool.not_false, if_true, Bool.false_eq_true, if_false])
       go_wp2
       go_roundg k35
       case measure => have := HKk35.out; omega
       case rel => exact ⟨_, _, _, rfl, H, ⟨by have := HKk35.out; omega⟩, HS.pick [0, 1, 2, 3, 4, 5, 6, 7] (by decide) (by rfl)⟩
   · replace H := zneg c40 H
     replace c40 := eq_false c40
     obtain rfl := zsome H
     go_wp2_with (first | ((with_reducible refine gate_store (p := 4) rfl ?_); refine ev_store rfl 2 0 HS (seg := [.slice B8 t7.f0.length d8, .slice B9 t7.f1.length d9, .slice B37 l36.length d37]) rfl rfl rfl rfl rfl rfl (by kernel_rfl) (by simp [wrt]) (by simp [Value.oneCell']) ?_; clear HS; (try clear F); intro w50 HS; replace HS : Hp noFP w _ [.box g2 [.slice Ap0 a0.f0.length cp0, .slice Ap1 a0.f1.length cp1, .slice Ap2 a0.f2.length cp2] 61, .box g3 [.int .i64 a1.f0, .slice Ap3 a1.f1.length cp3, .int .i64 a1.f2.f0, .slice Ap4 a1.f2.f1.length cp4, .bool a1.f2.f2, .bool a1.f2.f3, .int .i64 a1.f2.f4] 66, .box g4 [.slice B8 t7.f0.length d8, .slice B9 t7.f1.length d9, .slice B37 l36.length d37] 61, .own (Zd.slice 192 q192) t7.f0 [.slice B8 t7.f0.length d8], .own (Zd.slice 190 q190) t7.f1 [.slice B9 t7.f1.length d9], .own (Zd.slice 128 q128) t7.f2 [.slice B10 t7.f2.length d10], .box g5 [.slice B8 t7.f0.length d8, .slice B9 t7.f1.length d9, .slice B37 l36.length d37] 61, .own (Zd.slice 128 q128) l36 [.slice B37 l36.length d37]] := HS; have F := HS.boxes; simp only [boxFacts, and_true] at F))
     exact bodyPost_ret (results_single rfl (.cell _ _ _ _ _ rfl (HS.boxAt (i := 2) rfl) Try.underlying61 rfl (by kernel_rfl) .nil)) rfl ⟨_, _, _, rfl, HS.pick [3, 4, 7] (by decide) (by rfl)⟩
/-! ### laws_eqStringS: function 100 -/
def laws_eqStringS.l0 : Nat → Int → (List ByteArray) → (List ByteArray) → Option (Bool)
  | 0, _, _, _ => none
  | k + 1, x5, a0, a1 => (if x5 < (a0.length : Int) then (if 0 ≤ x5 then (if x5 < (a0.length : Int) then (if x5 < (a1.length : Int) then (if (rdOf ByteArray.empty a0 x5).toList = (rdOf ByteArray.empty a1 x5).toList then (laws_eqStringS.l0 k (wrap64 (x5 + 1)) a0 a1) else (some false)) else none) else none) else none) else (some true))
def laws_eqStringS.f (k : Nat) (a0 : (List ByteArray)) (a1 : (List ByteArray)) : Option (Bool) := (if (a0.length : Int) = (a1.length : Int) then (laws_eqStringS.l0 k 0 a0 a1) else (some false))
def laws_eqStringS.T6 : Bool × List (List Nat × List Nat) := (true, [([], []), ([], []), ([0, 1], [0, 1]), ([2], [2]), ([], []), ([], []), ([4, 5], [4, 5]), ([6], [6]), ([3, 7], [3, 7])])
theorem laws_eqStringS.tT6 : rtab .any (opsOf Try.f100 6) = laws_eqStringS.T6 := by kernel_rfl
set_option maxHeartbeats 16000000 in
theorem laws_eqStringS.calls {k : Nat} {a0 : (List ByteArray)} {a1 : (List ByteArray)} {Ap0 : Option Addr} {np0 cp0 : Nat} {Ap1 : Option Addr} {np1 cp1 : Nat} {r : Bool} {w : World} (h : laws_eqStringS.f k a0 a1 = some r) (gp0 : Kd.string.C w Ap0 np0 a0) (lp0 : np0 ≤ cp0) (gp1 : Kd.string.C w Ap1 np1 a1) (lp1 : np1 ≤ cp1) :
    Calls Try.prog 100 #[.slice Ap0 np0 cp0, .slice Ap1 np1 cp1] w (fun e w' => e = .returned (.bool r) ∧ Hp noFP w w' []) := by
 obtain rfl := C_len gp0
 obtain rfl := C_len gp1
 have HS := Hp.start w
 have H := Aside0.mk h
 clear h
 unfold laws_eqStringS.f at H
 go_enter Try.func100, Try.ntmps100
 by_cases c1 : (a0.length : Int) = (a1.length : Int)
 · replace H := zpos c1 H
   have c1a := beq_iff_eq.mpr c1
   have c1b := bne_eq_false_iff_eq.mpr c1
   clear c1
   go_wp2
   go_loopg [5] k (fun kq v_5 w' => ∃ (x5 : Int), v_5 = .int .i64 x5 ∧ Aside0 (laws_eqStringS.l0 kq x5 a0 a1 = some r) ∧ Aside0 (kq ≤ k) ∧ Hp noFP w w' [])
   case atStart => exact ⟨_, rfl, H, ⟨Nat.le_refl _⟩, HS⟩
   case round =>
    clear HS H; (try clear F)
    obtain ⟨x5, rfl, H, HKk4, HS⟩ := hrel
    cases gk with
    | zero => exact absurd H.out (by simp [laws_eqStringS.l0])
    | succ k4 =>
     simp only [laws_eqStringS.l0] at H
     by_cases c7 : x5 < (a0.length : Int)
     · replace H := zpos c7 H
       replace c7 := eq_true c7
       (try go_wp2)
       by_cases c102001 : 0 ≤ x5
       case neg => exact zno c102001 H
       replace H := zpos c102001 H
       replace c102001 := eq_true c102001
       by_cases c102002 : x5 < (a0.length : Int)
       case neg => exact zno c102002 H
       replace H := zpos c102002 H
       replace c102002 := eq_true c102002
       obtain ⟨ad102999, rfl, e102999_0⟩ := Kd.at_string gp0 x5 (of_eq_true c102001) (of_eq_true c102002)
       by_cases c106001 : x5 < (a1.length : Int)
       case neg => exact zno c106001 H
       replace H := zpos c106001 H
       replace c106001 := eq_true c106001
       obtain ⟨ad106999, rfl, e106999_0⟩ := Kd.at_string gp1 x5 (of_eq_true c102001) (of_eq_true c106001)
       refine dr_start [] HS #[false, false, false, false, false, false, false, false, false] (by kernel_rfl) rfl rfl laws_eqStringS.tT6 (fun w9 HT HS HH => ?_)
       (try clear F)
       refine drq_of [(0, some 17), (1, some 18), (2, some 19)] ?_
       repeat (first | (refine drq_pure HT (v := ?_) (a' := ?_) rfl rfl (by kernel_rfl) (fun _ _ _ h => h) (.inl ⟨by rfl, ?_⟩) ?_ ?_; rotate_left; (intro w'; go_simp; with_reducible rfl); rotate_left; (simp only [Act.put, List.setIfInBounds_toArray, List.set_cons_zero, List.set_cons_succ, i64_w, i32_w]; rfl)))
       refine drq_end ?_
       refine dr_take 3 (some 20) HT HH (v := ?_) (a' := ?_) rfl rfl (by kernel_rfl) (fun _ _ _ h => h) (.inl ⟨by rfl, ?_⟩) ?_ ?_
       rotate_left
       · rintro w' ⟨rs', HS'⟩; have e102999_0 := (HS'.keepc e102999_0); go_simp; with_reducible rfl
       rotate_left
       · simp only [Act.put, List.setIfInBounds_toArray, List.set_cons_zero, List.set_cons_succ, i64_w, i32_w]; rfl
       refine drq_of [(4, some 21), (5, some 22), (6, some 23)] ?_
       repeat (first | (refine drq_pure HT (v := ?_) (a' := ?_) rfl rfl (by kernel_rfl) (fun _ _ _ h => h) (.inl ⟨by rfl, ?_⟩) ?_ ?_; rotate_left; (intro w'; go_simp; with_reducible rfl); rotate_left; (simp only [Act.put, List.setIfInBounds_toArray, List.set_cons_zero, List.set_cons_succ, i64_w, i32_w]; rfl)))
       refine drq_end ?_
       refine dr_take 7 (some 24) HT HH (v := ?_) (a' := ?_) rfl rfl (by kernel_rfl) (fun _ _ _ h => h) (.inl ⟨by rfl, ?_⟩) ?_ ?_
       rotate_left
       · rintro w' ⟨rs', HS'⟩; have e106999_0 := (HS'.keepc e106999_0); go_simp; with_reducible rfl
       rotate_left
       · simp only [Act.put, List.setIfInBounds_toArray, List.set_cons_zero, List.set_cons_succ, i64_w, i32_w]; rfl
       refine drq_of [(8, some 25)] ?_
       repeat (first | (refine drq_pure HT (v := ?_) (a' := ?_) rfl rfl (by kernel_rfl) (fun _ _ _ h => h) (.inl ⟨by rfl, ?_⟩) ?_ ?_; rotate_left; (intro w'; go_simp; with_reducible rfl); rotate_left; (simp only [Act.put, List.setIfInBounds_toArray, List.set_cons_zero, List.set_cons_succ, i64_w, i32_w]; rfl)))
       refine drq_end ?_
       refine done_ (done_of HT.out (by kernel_rfl)) ?_
       by_cases c11 : (rdOf ByteArray.empty a0 x5).toList = (rdOf ByteArray.empty a1 x5).toList
       · replace H := zpos c11 H
         have c11a := beq_iff_eq.mpr c11
         have c11b := bne_eq_false_iff_eq.mpr c11
         clear c11
         (try simp only [c11a, c11b, decide_true, decide_false, Bool.not_true, Bool.not_false])
         go_wp2
         go_roundg k4
         case measure => have := HKk4.out; omega
         case rel => exact ⟨_, rfl, H, ⟨by have := HKk4.out; omega⟩, HS.pick [] (by decide) (by rfl)⟩
       · replace H := zneg c11 H
         have c11a := beq_eq_false_iff_ne.mpr c11
         have c11b := bne_iff_ne.mpr c11
         clear c11
         (try simp only [c11a, c11b, decide_true, decide_false, Bool.not_true, Bool.not_false])
         obtain rfl := zsome H
         go_wp2
         go_ret
         exact ⟨rfl, HS.pick [] (by decide) (by rfl)⟩
     · replace H := zneg c7 H
       replace c7 := eq_false c7
       obtain rfl := zsome H
       go_wp2
       go_ret
       exact ⟨rfl, HS.pick [] (by decide) (by rfl)⟩
 · replace H := zneg c1 H
   have c1a := beq_eq_false_iff_ne.mpr c1
   have c1b := bne_iff_ne.mpr c1
   clear c1
   obtain rfl := zsome H
   go_wp2
   go_ret
   exact ⟨rfl, HS.pick [] (by decide) (by rfl)⟩
/-! ### laws_eqIntS: function 46 -/
def laws_eqIntS.l0 : Nat → Int → (List Int) → (List Int) → Option (Bool)
  | 0, _, _, _ => none
  | k + 1, x5, a0, a1 => (if x5 < (a0.length : Int) then (if 0 ≤ x5 then (if x5 < (a0.length : Int) then (if x5 < (a1.length : Int) then (if (rd a0 x5) = (rd a1 x5) then (laws_eqIntS.l0 k (wrap64 (x5 + 1)) a0 a1) else (some false)) else none) else none) else none) else (some true))
def laws_eqIntS.f (k : Nat) (a0 : (List Int)) (a1 : (List Int)) : Option (Bool) := (if (a0.length : Int) = (a1.length : Int) then (laws_eqIntS.l0 k 0 a0 a1) else (some false))
def laws_eqIntS.T6 : Bool × List (List Nat × List Nat) := (true, [([], []), ([], []), ([0, 1], [0, 1]), ([2], [2]), ([], []), ([], []), ([4, 5], [4, 5]), ([6], [6]), ([3, 7], [3, 7])])
theorem laws_eqIntS.tT6 : rtab .any (opsOf Try.f46 6) = laws_eqIntS.T6 := by kernel_rfl
set_option maxHeartbeats 16000000 in
theorem laws_eqIntS.calls {k : Nat} {a0 : (List Int)} {a1 : (List Int)} {Ap0 : Option Addr} {np0 cp0 : Nat} {Ap1 : Option Addr} {np1 cp1 : Nat} {r : Bool} {w : World} (h : laws_eqIntS.f k a0 a1 = some r) (gp0 : (Kd.int .i64).C w Ap0 np0 a0) (lp0 : np0 ≤ cp0) (gp1 : (Kd.int .i64).C w Ap1 np1 a1) (lp1 : np1 ≤ cp1) :
    Calls Try.prog 46 #[.slice Ap0 np0 cp0, .slice Ap1 np1 cp1] w (fun e w' => e = .returned (.bool r) ∧ Hp noFP w w' []) := by
 obtain rfl := C_len gp0
 obtain rfl := C_len gp1
 have HS := Hp.start w
 have H := Aside0.mk h
 clear h
 unfold laws_eqIntS.f at H
 go_enter Try.func46, Try.ntmps46
 by_cases c1 : (a0.length : Int) = (a1.length : Int)
 · replace H := zpos c1 H
   have c1a := beq_iff_eq.mpr c1
   have c1b := bne_eq_false_iff_eq.mpr c1
   clear c1
   go_wp2
   go_loopg [5] k (fun kq v_5 w' => ∃ (x5 : Int), v_5 = .int .i64 x5 ∧ Aside0 (laws_eqIntS.l0 kq x5 a0 a1 = some r) ∧ Aside0 (kq ≤ k) ∧ Hp noFP w w' [])
   case atStart => exact ⟨_, rfl, H, ⟨Nat.le_refl _⟩, HS⟩
   case round =>
    clear HS H; (try clear F)
    obtain ⟨x5, rfl, H, HKk4, HS⟩ := hrel
    cases gk with
    | zero => exact absurd H.out (by simp [laws_eqIntS.l0])
    | succ k4 =>
     simp only [laws_eqIntS.l0] at H
     by_cases c7 : x5 < (a0.length : Int)
     · replace H := zpos c7 H
       replace c7 := eq_true c7
       (try go_wp2)
       by_cases c102001 : 0 ≤ x5
       case neg => exact zno c102001 H
       replace H := zpos c102001 H
       replace c102001 := eq_true c102001
       by_cases c102002 : x5 < (a0.length : Int)
       case neg => exact zno c102002 H
       replace H := zpos c102002 H
       replace c102002 := eq_true c102002
       obtain ⟨ad102999, rfl, e102999_0⟩ := Kd.at_int gp0 x5 (of_eq_true c102001) (of_eq_true c102002)
       by_cases c106001 : x5 < (a1.length : Int)
       case neg => exact zno c106001 H
       replace H := zpos c106001 H
       replace c106001 := eq_true c106001
       obtain ⟨ad106999, rfl, e106999_0⟩ := Kd.at_int gp1 x5 (of_eq_true c102001) (of_eq_true c106001)
       refine dr_start [] HS #[false, false, false, false, false, false, false, false, false] (by kernel_rfl) rfl rfl laws_eqIntS.tT6 (fun w9 HT HS HH => ?_)
       (try clear F)
       refine drq_of [(0, some 17), (1, some 18), (2, some 19)] ?_
       repeat (first | (refine drq_pure HT (v := ?_) (a' := ?_) rfl rfl (by kernel_rfl) (fun _ _ _ h => h) (.inl ⟨by rfl, ?_⟩) ?_ ?_; rotate_left; (intro w'; go_simp; with_reducible rfl); rotate_left; (simp only [Act.put, List.setIfInBounds_toArray, List.set_cons_zero, List.set_cons_succ, i64_w, i32_w]; rfl)))
       refine drq_end ?_
       refine dr_take 3 (some 20) HT HH (v := ?_) (a' := ?_) rfl rfl (by kernel_rfl) (fun _ _ _ h => h) (.inl ⟨by rfl, ?_⟩) ?_ ?_
       rotate_left
       · rintro w' ⟨rs', HS'⟩; have e102999_0 := (HS'.keepc e102999_0); go_simp; with_reducible rfl
       rotate_left
       · simp only [Act.put, List.setIfInBounds_toArray, List.set_cons_zero, List.set_cons_succ, i64_w, i32_w]; rfl
       refine drq_of [(4, some 21), (5, some 22), (6, some 23)] ?_
       repeat (first | (refine drq_pure HT (v := ?_) (a' := ?_) rfl rfl (by kernel_rfl) (fun _ _ _ h => h) (.inl ⟨by rfl, ?_⟩) ?_ ?_; rotate_left; (intro w'; go_simp; with_reducible rfl); rotate_left; (simp only [Act.put, List.setIfInBounds_toArray, List.set_cons_zero, List.set_cons_succ, i64_w, i32_w]; rfl)))
       refine drq_end ?_
       refine dr_take 7 (some 24) HT HH (v := ?_) (a' := ?_) rfl rfl (by kernel_rfl) (fun _ _ _ h => h) (.inl ⟨by rfl, ?_⟩) ?_ ?_
       rotate_left
       · rintro w' ⟨rs', HS'⟩; have e106999_0 := (HS'.keepc e106999_0); go_simp; with_reducible rfl
       rotate_left
       · simp only [Act.put, List.setIfInBounds_toArray, List.set_cons_zero, List.set_cons_succ, i64_w, i32_w]; rfl
       refine drq_of [(8, some 25)] ?_
       repeat (first | (refine drq_pure HT (v := ?_) (a' := ?_) rfl rfl (by kernel_rfl) (fun _ _ _ h => h) (.inl ⟨by rfl, ?_⟩) ?_ ?_; rotate_left; (intro w'; go_simp; with_reducible rfl); rotate_left; (simp only [Act.put, List.setIfInBounds_toArray, List.set_cons_zero, List.set_cons_succ, i64_w, i32_w]; rfl)))
       refine drq_end ?_
       refine done_ (done_of HT.out (by kernel_rfl)) ?_
       by_cases c11 : (rd a0 x5) = (rd a1 x5)
       · replace H := zpos c11 H
         have c11a := beq_iff_eq.mpr c11
         have c11b := bne_eq_false_iff_eq.mpr c11
         clear c11
         (try simp only [c11a, c11b, decide_true, decide_false, Bool.not_true, Bool.not_false])
         go_wp2
         go_roundg k4
         case measure => have := HKk4.out; omega
         case rel => exact ⟨_, rfl, H, ⟨by have := HKk4.out; omega⟩, HS.pick [] (by decide) (by rfl)⟩
       · replace H := zneg c11 H
         have c11a := beq_eq_false_iff_ne.mpr c11
         have c11b := bne_iff_ne.mpr c11
         clear c11
         (try simp only [c11a, c11b, decide_true, decide_false, Bool.not_true, Bool.not_false])
         obtain rfl := zsome H
         go_wp2
         go_ret
         exact ⟨rfl, HS.pick [] (by decide) (by rfl)⟩
     · replace H := zneg c7 H
       replace c7 := eq_false c7
       obtain rfl := zsome H
       go_wp2
       go_ret
       exact ⟨rfl, HS.pick [] (by decide) (by rfl)⟩
 · replace H := zneg c1 H
   have c1a := beq_eq_false_iff_ne.mpr c1
   have c1b := bne_iff_ne.mpr c1
   clear c1
   obtain rfl := zsome H
   go_wp2
   go_ret
   exact ⟨rfl, HS.pick [] (by decide) (by rfl)⟩
end Go.Proofs.Ytoaoncnbimcdgaa.F
