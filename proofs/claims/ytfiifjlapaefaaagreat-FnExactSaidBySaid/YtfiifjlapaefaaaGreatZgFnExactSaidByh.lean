/- Functions of the program and of the law, and that their calls do what is written here. -/
import Derived.Test.YtfiifjlapaefaaaGreatZgFnExactSaidByf
import Derived.Test.YtfiifjlapaefaaaGreatZgFnExactSaidByg
namespace Go.Proofs.YtfiifjlapaefaaaGreat.F
open Go.RowKit Go.Proofs.YtfiifjlapaefaaaGreatW.PrintWords Go.Proofs.YtfiifjlapaefaaaGreatW.PrintLast Go.Proofs.YtfiifjlapaefaaaGreatW.PrintMore Go.Proofs.YtfiifjlapaefaaaGreat.Z
attribute [local go_sem] max2_int min2_int max_two min_two max_three min_three max_four min_four
set_option linter.unusedVariables false
set_option linter.unusedSimpArgs false
set_option maxRecDepth 100000
/-! ### impl_each_string_0: function 95 -/
def impl_each_string_0.l0 : Nat → (List S110) → Int → (List ByteArray) → Option (S110)
  | 0, _, _, _ => none
  | k + 1, l22, x24, a0 => (if x24 < (a0.length : Int) then (if 0 ≤ x24 then (if x24 < (a0.length : Int) then ((impl_bytesItem.f (rdOf ByteArray.empty a0 x24)).bind fun t3 => (if l22.length + 1 ≤ 2932031007402 then (lets (l22 ++ ([t3] : List S110)) fun y9 => (impl_each_string_0.l0 k y9 (wrap64 (x24 + 1)) a0)) else none)) else none) else none) else (some (⟨48, (⟨#[]⟩ : ByteArray), l22⟩ : S110)))
def impl_each_string_0.f (k : Nat) (a0 : (List ByteArray)) : Option (S110) := (impl_each_string_0.l0 k [] 0 a0)
def impl_each_string_0.T5 : Bool × List (List Nat × List Nat) := (true, [([], []), ([0], [0]), ([], []), ([], []), ([2, 3], [2, 3]), ([4], [4]), ([1, 5, 4], [1, 5]), ([0, 1, 2, 3, 4, 5, 6], []), ([7, 6, 6, 0, 1, 2, 3, 4, 5, 6], [6, 7])])
theorem impl_each_string_0.tT5 : rtab .any (opsOf Tryz.f95 5) = impl_each_string_0.T5 := by kernel_rfl
set_option maxHeartbeats 16000000 in
theorem impl_each_string_0.calls {k : Nat} {a0 : (List ByteArray)} {Ap0 : Option Addr} {np0 cp0 : Nat} {r : S110} {w : World} (h : impl_each_string_0.f k a0 = some r) (gp0 : Kd.string.C w Ap0 np0 a0) (lp0 : np0 ≤ cp0) :
    Calls Tryz.prog 95 #[.slice Ap0 np0 cp0, .func (.func 58) #[] #[]] w (fun e w' => ∃ v0_ : Value, e = .returned (.agg #[.int .i64 r.f0, .string r.f1, v0_]) ∧ Hp noFP w w' [.own (Zd.slice 110 q110) r.f2 [v0_]]) := by
 obtain rfl := C_len gp0
 have HS := Hp.start w
 have H := Aside0.mk h
 clear h
 unfold impl_each_string_0.f at H
 go_enter Tryz.func95, Tryz.ntmps95
 go_wp2_with (first | ((with_reducible refine gd 4 rfl ?_); refine ev_bx HS ?_; clear HS; (try clear F); intro g4 w4 HS F) | ((with_reducible refine gd 5 rfl ?_); refine ev_bx HS ?_; clear HS; (try clear F); intro g5 w5 HS F) | ((with_reducible refine gate_store (p := 5) rfl ?_); refine ev_st 1 0 HS (seg := [.int .i64 48, .string (⟨#[]⟩ : ByteArray), .slice none 0 0]) ?_; clear HS; (try clear F); intro w5 HS F))
 replace HS := HS.nil 110 q110
 go_loopg [11] k (fun kq v_11 w' => ∃ (l22 : List S110) (v23 : Value) (x24 : Int), v_11 = .int .i64 x24 ∧ Aside0 (impl_each_string_0.l0 kq l22 x24 a0 = some r) ∧ Aside0 (kq ≤ k) ∧ Hp noFP w w' [.box g4 [.int .i64 0, .string (⟨#[]⟩ : ByteArray), .slice none 0 0] 110, .box g5 [.int .i64 48, .string (⟨#[]⟩ : ByteArray), v23] 110, .own (Zd.slice 110 q110) l22 [v23]])
 case atStart => exact ⟨_, _, _, rfl, H, ⟨Nat.le_refl _⟩, HS⟩
 case round =>
  clear HS H; (try clear F)
  obtain ⟨l22, v23, x24, rfl, H, HKk21, HS⟩ := hrel
  obtain ⟨B23, d23, rfl, m23⟩ := HS.form 2 rfl
  have F := HS.boxes; simp only [bxn] at F
  cases gk with
  | zero => exact absurd H.out (by simp [impl_each_string_0.l0])
  | succ k21 =>
   simp only [impl_each_string_0.l0] at H
   replace H := znif H; rcases H with ⟨c26, H⟩ | ⟨c26, H⟩
   case inl =>
    obtain rfl := zsome H
    go_wp2_with (first | ((with_reducible refine gate_store (p := 4) rfl ?_); refine ev_st 0 0 HS (seg := [.int .i64 48, .string (⟨#[]⟩ : ByteArray), .slice B23 l22.length d23]) ?_; clear HS; (try clear F); intro w33 HS F))
    exact bodyPost_ret (results_single rfl (.cell _ _ _ _ _ rfl (HS.boxAt (i := 0) rfl) Tryz.underlying110 rfl (by kernel_rfl) .nil)) rfl ⟨_, rfl, HS.pick [2] (by decide) (by rfl)⟩
   replace H := zgo H; obtain ⟨c27, H⟩ := H
   replace H := zgo H; obtain ⟨c28, H⟩ := H
   obtain ⟨ad29, rfl, e29_0⟩ := Kd.at_string gp0 x24 (of_eq_true c27) (of_eq_true c28)
   have e29_0_29 := (HS.keepc e29_0)
   (try go_wp2)
   replace H := zbind H; obtain ⟨t3, ht3, H⟩ := H
   replace H := zgo H; obtain ⟨c8, H⟩ := H
   replace H := zlets H; obtain ⟨y9, e_y9, H⟩ := H
   refine dr_start2 [.box g4 [.int .i64 0, .string (⟨#[]⟩ : ByteArray), .slice none 0 0] 110, .box g5 [.int .i64 48, .string (⟨#[]⟩ : ByteArray), .slice B23 l22.length d23] 110, .emp] [8] HS (HS.arr [some 0, some 1, none] (by decide)) #[false, false, false, false, false, false, false, false, false] (by kernel_rfl) rfl rfl impl_each_string_0.tT5 (fun w31 HT HS HH => ?_)
   (try clear F)
   refine drq_of [(0, some 15), (1, some 16), (2, some 17), (3, some 18)] ?_
   repeat (first | refine drp HT ?_ | refine drt HT HH ?_)
   refine drq_end ?_
   refine dr1 4 HT fun K hK => ?_
   refine if_wp (by rfl) ?_; refine wp_callv Tryz.func58 (by kernel_rfl) rfl #[.string (rdOf ByteArray.empty a0 x24)] #[.string (rdOf ByteArray.empty a0 x24)] rfl rfl (by simp only [mpn]; rfl) (by first | rfl | simp) ?_; refine (impl_bytesItem.calls ht3.out).mono ?_; rintro _ wt3 ⟨v6, rfl, HQ⟩; refine ⟨_, rfl, ?_⟩; replace HS := HS.call HQ; clear HQ; (try clear F); obtain ⟨B6, d6, rfl, m6⟩ := HS.form 3 rfl
   (try simp only [hpn, hpm] at HS)
   have F := HS.boxes; simp only [bxn] at F
   refine hK.out _ _ ⟨[], HS.arr [some 0, some 1, none] (by decide)⟩ (fun HH => ?_)
   clear hK K
   refine norm_ (a' := ?_) ?_ ?_
   rotate_left
   · show Act.put _ (some 19) _ = _; simp only [Act.put, ptn]; rfl
   refine dr1 5 HT fun K hK => ?_
   refine if_li q110 [3] ([t3] : List S110) ([.int .i64 t3.f0, .string t3.f1, .slice B6 t3.f2.length d6] ++ []) HS (MadeL.cons (js1 := [3]) (c := [.int .i64 t3.f0, .string t3.f1, .slice B6 t3.f2.length d6]) rfl (fun S hd hh => q110_pack (x := t3) hd (hh 3 (.own (Zd.slice 110 q110) t3.f2 [.slice B6 t3.f2.length d6]) rfl) (by decide)) MadeL.nil (by decide)) ?_; clear HS; (try clear F); intro v7 w7 HS F; obtain ⟨B7, d7, rfl, m7⟩ := HS.formn 1 4 rfl rfl
   refine hK.out _ _ ⟨[], HS.arr [some 0, some 1, none] (by decide)⟩ (fun HH => ?_)
   clear hK K
   refine norm_ (a' := ?_) ?_ ?_
   rotate_left
   · show Act.put _ (some 20) _ = _; simp only [Act.put, ptn]; rfl
   refine dr1 6 HT fun K hK => ?_
   refine wp_ap q110 2 4 HS rfl rfl Tryz.underlying108 info110 (of_eq_true c8) ?_; clear HS; (try clear F); intro v9 w9 HS; rw [← e_y9.out] at HS; obtain ⟨B9, d9, rfl, m9⟩ := HS.form 5 rfl
   (try simp only [hpn, hpm] at HS)
   have F := HS.boxes; simp only [bxn] at F
   refine hK.out _ _ ⟨[], HS.arr [some 0, some 1, none] (by decide)⟩ (fun HH => ?_)
   clear hK K
   refine norm_ (a' := ?_) ?_ ?_
   rotate_left
   · show Act.put _ (some 21) _ = _; simp only [Act.put, ptn]; rfl
   refine drq_of [(7, some 22)] ?_
   repeat (refine drp HT ?_)
   refine drq_end ?_
   refine dr_last 8 HT rfl (by kernel_rfl) (by decide) (fun K hK => ?_)
   refine if_st 1 2 HS (seg := [.slice B9 y9.length d9]) ?_; clear HS; (try clear F); intro w10 HS F
   refine hK.out _ _ ?_
   clear hK K
   refine done_ (done_of HT.out (by kernel_rfl)) ?_
   (try clear F)
   have F := HS.boxes; simp only [bxn] at F
   go_wp2
   go_roundg k21
   case measure => have := HKk21.out; omega
   case rel => exact ⟨_, _, _, rfl, H, ⟨by have := HKk21.out; omega⟩, HS.pick [0, 1, 5] (by decide) (by rfl)⟩
/-! ### impl_replyItem_1: function 93 -/
def impl_replyItem_1.f (k : Nat) (a0 : S154) : Option (S110) := ((impl_IntItem.f k a0.f0).bind fun t4 => ((impl_IntItem.f k a0.f1).bind fun t7 => ((impl_each_string_0.f k a0.f2).bind fun t9 => ((impl_each_string_0.f k a0.f3).bind fun t11 => ((impl_ListItem.f k ([t4, t7, t9, t11] : List S110)).bind fun t14 => (some (⟨t14.f0, t14.f1, t14.f2⟩ : S110)))))))
def impl_replyItem_1.T1 : Bool × List (List Nat × List Nat) := (true, [([], []), ([0], [0]), ([1], [1]), ([], []), ([3], [3]), ([4, 2], [4]), ([], []), ([6], [6]), ([7, 5], [7]), ([], []), ([9], [9]), ([10, 8], [10]), ([2, 5, 8, 11], [2, 5, 8, 11]), ([12, 11], [12]), ([13, 13, 0, 1, 2, 3, 4, 5, 6, 7, 8, 9, 10, 11, 12, 13], [13])])
theorem impl_replyItem_1.tT1 : rtab .any (opsOf Tryz.f93 1) = impl_replyItem_1.T1 := by kernel_rfl
set_option maxHeartbeats 16000000 in
theorem impl_replyItem_1.calls {k : Nat} {a0 : S154} {Ap0 : Option Addr} {np0 cp0 : Nat} {Ap1 : Option Addr} {np1 cp1 : Nat} {r : S110} {w : World} (h : impl_replyItem_1.f k a0 = some r) (gp0 : Kd.string.C w Ap0 np0 a0.f2) (lp0 : np0 ≤ cp0) (gp1 : Kd.string.C w Ap1 np1 a0.f3) (lp1 : np1 ≤ cp1) :
    Calls Tryz.prog 93 #[.agg #[.int .i64 a0.f0, .int .i64 a0.f1, .slice Ap0 np0 cp0, .slice Ap1 np1 cp1]] w (fun e w' => ∃ v0_ : Value, e = .returned (.agg #[.int .i64 r.f0, .string r.f1, v0_]) ∧ Hp noFP w w' [.own (Zd.slice 110 q110) r.f2 [v0_]]) := by
 obtain rfl := C_len gp0
 obtain rfl := C_len gp1
 have HS := Hp.start w
 have H := Aside0.mk h
 clear h
 unfold impl_replyItem_1.f at H
 go_enter Tryz.func93, Tryz.ntmps93
 go_wp2_with (first | ((with_reducible refine gd 1 rfl ?_); refine ev_bx HS ?_; clear HS; (try clear F); intro g1 w1 HS F) | ((with_reducible refine gd 2 rfl ?_); refine ev_bx HS ?_; clear HS; (try clear F); intro g2 w2 HS F))
 replace H := zbind H; obtain ⟨t4, ht4, H⟩ := H
 replace H := zbind H; obtain ⟨t7, ht7, H⟩ := H
 replace H := zbind H; obtain ⟨t9, ht9, H⟩ := H
 replace H := zbind H; obtain ⟨t11, ht11, H⟩ := H
 replace H := zbind H; obtain ⟨t14, ht14, H⟩ := H
 refine dr_start [14] HS #[false, false, false, false, false, false, false, false, false, false, false, false, false, false, false] (by kernel_rfl) rfl rfl impl_replyItem_1.tT1 (fun w6 HT HS HH => ?_)
 (try clear F)
 refine drq_of [(0, some 3), (1, some 4), (3, some 6), (4, some 7), (6, some 9), (7, some 10), (9, some 12), (10, some 13)] ?_
 repeat (first | refine drp HT ?_ | refine drt HT HH ?_)
 refine drq_end ?_
 refine dr1 2 HT fun K hK => ?_
 refine go_cl1 HS (impl_IntItem.calls ht4.out) Tryz.func94 ?_; clear HS; (try clear F); intro v5 wt4 HS F; obtain ⟨B5, d5, rfl, m5⟩ := HS.form 2 rfl
 refine nrm 5 hK ⟨_, HS⟩ (fun HH => ?_); clear hK K
 refine dr1 5 HT fun K hK => ?_
 refine go_cl1 HS (impl_IntItem.calls ht7.out) Tryz.func94 ?_; clear HS; (try clear F); intro v8 wt7 HS F; obtain ⟨B8, d8, rfl, m8⟩ := HS.form 3 rfl
 refine nrm 8 hK ⟨_, HS⟩ (fun HH => ?_); clear hK K
 refine dr1 8 HT fun K hK => ?_
 refine go_cl1 HS (impl_each_string_0.calls ht9.out (HS.ro gp0) lp0) Tryz.func95 ?_; clear HS; (try clear F); intro v10 wt9 HS F; obtain ⟨B10, d10, rfl, m10⟩ := HS.form 4 rfl
 refine nrm 11 hK ⟨_, HS⟩ (fun HH => ?_); clear hK K
 refine dr1 11 HT fun K hK => ?_
 refine go_cl1 HS (impl_each_string_0.calls ht11.out (HS.ro gp1) lp1) Tryz.func95 ?_; clear HS; (try clear F); intro v12 wt11 HS F; obtain ⟨B12, d12, rfl, m12⟩ := HS.form 5 rfl
 refine nrm 14 hK ⟨_, HS⟩ (fun HH => ?_); clear hK K
 refine dr1 12 HT fun K hK => ?_
 refine if_li q110 [2, 3, 4, 5] ([t4, t7, t9, t11] : List S110) ([.int .i64 t4.f0, .string t4.f1, .slice B5 t4.f2.length d5] ++ ([.int .i64 t7.f0, .string t7.f1, .slice B8 t7.f2.length d8] ++ ([.int .i64 t9.f0, .string t9.f1, .slice B10 t9.f2.length d10] ++ ([.int .i64 t11.f0, .string t11.f1, .slice B12 t11.f2.length d12] ++ [])))) HS (MadeL.cons (js1 := [2]) (c := [.int .i64 t4.f0, .string t4.f1, .slice B5 t4.f2.length d5]) rfl (fun S hd hh => q110_pack (x := t4) hd (hh 2 (.own (Zd.slice 110 q110) t4.f2 [.slice B5 t4.f2.length d5]) rfl) (by decide)) (MadeL.cons (js1 := [3]) (c := [.int .i64 t7.f0, .string t7.f1, .slice B8 t7.f2.length d8]) rfl (fun S hd hh => q110_pack (x := t7) hd (hh 3 (.own (Zd.slice 110 q110) t7.f2 [.slice B8 t7.f2.length d8]) rfl) (by decide)) (MadeL.cons (js1 := [4]) (c := [.int .i64 t9.f0, .string t9.f1, .slice B10 t9.f2.length d10]) rfl (fun S hd hh => q110_pack (x := t9) hd (hh 4 (.own (Zd.slice 110 q110) t9.f2 [.slice B10 t9.f2.length d10]) rfl) (by decide)) (MadeL.cons (js1 := [5]) (c := [.int .i64 t11.f0, .string t11.f1, .slice B12 t11.f2.length d12]) rfl (fun S hd hh => q110_pack (x := t11) hd (hh 5 (.own (Zd.slice 110 q110) t11.f2 [.slice B12 t11.f2.length d12]) rfl) (by decide)) MadeL.nil (by decide)) (by decide)) (by decide)) (by decide)) ?_; clear HS; (try clear F); intro v13 w13 HS F; obtain ⟨B13, d13, rfl, m13⟩ := HS.formn 4 6 rfl rfl
 refine nrm 15 hK ⟨_, HS⟩ (fun HH => ?_); clear hK K
 refine dr1 13 HT fun K hK => ?_
 refine go_cl1 HS (impl_ListItem.calls ht14.out (HS.rd 6 rfl) m13) Tryz.func56 ?_; clear HS; (try clear F); intro v15 wt14 HS F; obtain ⟨B15, d15, rfl, m15⟩ := HS.form 7 rfl
 refine nrm 16 hK ⟨_, HS⟩ (fun HH => ?_); clear hK K
 refine dr_last 14 HT rfl (by kernel_rfl) (by decide) (fun K hK => ?_)
 refine if_st 1 0 HS (seg := [.int .i64 t14.f0, .string t14.f1, .slice B15 t14.f2.length d15]) ?_; clear HS; (try clear F); intro w16 HS F
 refine hK.out _ _ ?_
 clear hK K
 refine done_ (done_of HT.out (by kernel_rfl)) ?_
 (try clear F)
 have F := HS.boxes; simp only [bxn] at F
 obtain rfl := zsome H
 go_wp2
 exact bodyPost_ret (results_single rfl (.cell _ _ _ _ _ rfl (HS.boxAt (i := 1) rfl) Tryz.underlying110 rfl (by kernel_rfl) .nil)) rfl ⟨_, rfl, HS.pick [7] (by decide) (by rfl)⟩
/-! ### impl_Answer_96_0: function 96 -/
def impl_Answer_96_0.l0 : Nat → (List S110) → Int → (List S154) → Option (S110)
  | 0, _, _, _ => none
  | k + 1, l26, x28, a0 => (if x28 < (a0.length : Int) then (if 0 ≤ x28 then (if x28 < (a0.length : Int) then ((impl_replyItem_1.f k (rd_T154 a0 x28)).bind fun t6 => (if l26.length + 1 ≤ 2932031007402 then (lets (l26 ++ ([t6] : List S110)) fun y12 => (impl_Answer_96_0.l0 k y12 (wrap64 (x28 + 1)) a0)) else none)) else none) else none) else (some (⟨48, (⟨#[]⟩ : ByteArray), l26⟩ : S110)))
def impl_Answer_96_0.f (k : Nat) (a0 : (List S154)) : Option (S110) := (impl_Answer_96_0.l0 k [] 0 a0)
def impl_Answer_96_0.T5 : Bool × List (List Nat × List Nat) := (true, [([], []), ([0], [0]), ([], []), ([], []), ([2, 3], [2, 3]), ([4], [4]), ([1, 5, 4], [1, 5]), ([0, 1, 2, 3, 4, 5, 6], []), ([7, 6, 6, 0, 1, 2, 3, 4, 5, 6], [6, 7])])
theorem impl_Answer_96_0.tT5 : rtab .any (opsOf Tryz.f96 5) = impl_Answer_96_0.T5 := by kernel_rfl
set_option maxHeartbeats 16000000 in
theorem impl_Answer_96_0.calls {k : Nat} {a0 : (List S154)} {Ap0 : Option Addr} {np0 cp0 : Nat} {r : S110} {w : World} (h : impl_Answer_96_0.f k a0 = some r) (gp0 : k154.C w Ap0 np0 a0) (lp0 : np0 ≤ cp0) :
    Calls Tryz.prog 96 #[.slice Ap0 np0 cp0, .func (.func 93) #[] #[]] w (fun e w' => ∃ v0_ : Value, e = .returned (.agg #[.int .i64 r.f0, .string r.f1, v0_]) ∧ Hp noFP w w' [.own (Zd.slice 110 q110) r.f2 [v0_]]) := by
 obtain rfl := C_len gp0
 have HS := Hp.start w
 have H := Aside0.mk h
 clear h
 unfold impl_Answer_96_0.f at H
 go_enter Tryz.func96, Tryz.ntmps96
 go_wp2_with (first | ((with_reducible refine gd 4 rfl ?_); refine ev_bx HS ?_; clear HS; (try clear F); intro g4 w4 HS F) | ((with_reducible refine gd 5 rfl ?_); refine ev_bx HS ?_; clear HS; (try clear F); intro g5 w5 HS F) | ((with_reducible refine gate_store (p := 5) rfl ?_); refine ev_st 1 0 HS (seg := [.int .i64 48, .string (⟨#[]⟩ : ByteArray), .slice none 0 0]) ?_; clear HS; (try clear F); intro w5 HS F))
 replace HS := HS.nil 110 q110
 go_loopg [11] k (fun kq v_11 w' => ∃ (l26 : List S110) (v27 : Value) (x28 : Int), v_11 = .int .i64 x28 ∧ Aside0 (impl_Answer_96_0.l0 kq l26 x28 a0 = some r) ∧ Aside0 (kq ≤ k) ∧ Hp noFP w w' [.box g4 [.int .i64 0, .string (⟨#[]⟩ : ByteArray), .slice none 0 0] 110, .box g5 [.int .i64 48, .string (⟨#[]⟩ : ByteArray), v27] 110, .own (Zd.slice 110 q110) l26 [v27]])
 case atStart => exact ⟨_, _, _, rfl, H, ⟨Nat.le_refl _⟩, HS⟩
 case round =>
  clear HS H; (try clear F)
  obtain ⟨l26, v27, x28, rfl, H, HKk25, HS⟩ := hrel
  obtain ⟨B27, d27, rfl, m27⟩ := HS.form 2 rfl
  have F := HS.boxes; simp only [bxn] at F
  cases gk with
  | zero => exact absurd H.out (by simp [impl_Answer_96_0.l0])
  | succ k25 =>
   simp only [impl_Answer_96_0.l0] at H
   replace H := znif H; rcases H with ⟨c30, H⟩ | ⟨c30, H⟩
   case inl =>
    obtain rfl := zsome H
    go_wp2_with (first | ((with_reducible refine gate_store (p := 4) rfl ?_); refine ev_st 0 0 HS (seg := [.int .i64 48, .string (⟨#[]⟩ : ByteArray), .slice B27 l26.length d27]) ?_; clear HS; (try clear F); intro w41 HS F))
    exact bodyPost_ret (results_single rfl (.cell _ _ _ _ _ rfl (HS.boxAt (i := 0) rfl) Tryz.underlying110 rfl (by kernel_rfl) .nil)) rfl ⟨_, rfl, HS.pick [2] (by decide) (by rfl)⟩
   replace H := zgo H; obtain ⟨c31, H⟩ := H
   replace H := zgo H; obtain ⟨c32, H⟩ := H
   obtain ⟨ad33, B33_2, d33_2, B33_3, d33_3, rfl, e33_0, e33_1, e33_2, e33_3, m33_2, y33_2, m33_3, y33_3⟩ := at_T154 gp0 x28 (of_eq_true c31) (of_eq_true c32)
   have e33_0_33 := (HS.keepc e33_0)
   have e33_1_33 := (HS.keepc e33_1)
   have e33_2_33 := (HS.keepc e33_2)
   have e33_3_33 := (HS.keepc e33_3)
   go_wp2_with (first | ((with_reducible refine gd 7 rfl ?_); refine ev_bx HS ?_; clear HS; (try clear F); intro g7 w7 HS F) | ((with_reducible refine gate_store (p := 7) rfl ?_); refine ev_st 3 0 HS (seg := [.int .i64 ((rd_T154 a0 x28).f0), .int .i64 ((rd_T154 a0 x28).f1), .slice B33_2 (rd_T154 a0 x28).f2.length d33_2, .slice B33_3 (rd_T154 a0 x28).f3.length d33_3]) ?_; clear HS; (try clear F); intro w36 HS F))
   replace H := zbind H; obtain ⟨t6, ht6, H⟩ := H
   replace H := zgo H; obtain ⟨c10, H⟩ := H
   replace H := zlets H; obtain ⟨y12, e_y12, H⟩ := H
   refine dr_start2 [.box g4 [.int .i64 0, .string (⟨#[]⟩ : ByteArray), .slice none 0 0] 110, .box g5 [.int .i64 48, .string (⟨#[]⟩ : ByteArray), .slice B27 l26.length d27] 110, .emp, .box g7 [.int .i64 ((rd_T154 a0 x28).f0), .int .i64 ((rd_T154 a0 x28).f1), .slice B33_2 (rd_T154 a0 x28).f2.length d33_2, .slice B33_3 (rd_T154 a0 x28).f3.length d33_3] 154] [8] HS (HS.arr [some 0, some 1, none, some 3] (by decide)) #[false, false, false, false, false, false, false, false, false] (by kernel_rfl) rfl rfl impl_Answer_96_0.tT5 (fun w39 HT HS HH => ?_)
   (try clear F)
   refine drq_of [(0, some 15), (1, some 16), (2, some 17), (3, some 18)] ?_
   repeat (first | refine drp HT ?_ | refine drt HT HH ?_)
   refine drq_end ?_
   refine dr1 4 HT fun K hK => ?_
   refine if_wp (by rfl) ?_; refine wp_callv Tryz.func93 (by kernel_rfl) rfl #[.agg #[.int .i64 ((rd_T154 a0 x28).f0), .int .i64 ((rd_T154 a0 x28).f1), .slice B33_2 (rd_T154 a0 x28).f2.length d33_2, .slice B33_3 (rd_T154 a0 x28).f3.length d33_3]] #[.agg #[.int .i64 ((rd_T154 a0 x28).f0), .int .i64 ((rd_T154 a0 x28).f1), .slice B33_2 (rd_T154 a0 x28).f2.length d33_2, .slice B33_3 (rd_T154 a0 x28).f3.length d33_3]] rfl rfl (by simp only [mpn]; rfl) (by first | rfl | simp) ?_; refine (impl_replyItem_1.calls ht6.out (HS.ro y33_2) m33_2 (HS.ro y33_3) m33_3).mono ?_; rintro _ wt6 ⟨v8, rfl, HQ⟩; refine ⟨_, rfl, ?_⟩; replace HS := HS.call HQ; clear HQ; (try clear F); obtain ⟨B8, d8, rfl, m8⟩ := HS.form 4 rfl
   (try simp only [hpn, hpm] at HS)
   have F := HS.boxes; simp only [bxn] at F
   refine hK.out _ _ ⟨[], HS.arr [some 0, some 1, none, some 3] (by decide)⟩ (fun HH => ?_)
   clear hK K
   refine norm_ (a' := ?_) ?_ ?_
   rotate_left
   · show Act.put _ (some 19) _ = _; simp only [Act.put, ptn]; rfl
   refine dr1 5 HT fun K hK => ?_
   refine if_li q110 [4] ([t6] : List S110) ([.int .i64 t6.f0, .string t6.f1, .slice B8 t6.f2.length d8] ++ []) HS (MadeL.cons (js1 := [4]) (c := [.int .i64 t6.f0, .string t6.f1, .slice B8 t6.f2.length d8]) rfl (fun S hd hh => q110_pack (x := t6) hd (hh 4 (.own (Zd.slice 110 q110) t6.f2 [.slice B8 t6.f2.length d8]) rfl) (by decide)) MadeL.nil (by decide)) ?_; clear HS; (try clear F); intro v9 w9 HS F; obtain ⟨B9, d9, rfl, m9⟩ := HS.formn 1 5 rfl rfl
   refine hK.out _ _ ⟨[], HS.arr [some 0, some 1, none, some 3] (by decide)⟩ (fun HH => ?_)
   clear hK K
   refine norm_ (a' := ?_) ?_ ?_
   rotate_left
   · show Act.put _ (some 20) _ = _; simp only [Act.put, ptn]; rfl
   refine dr1 6 HT fun K hK => ?_
   refine wp_ap q110 2 5 HS rfl rfl Tryz.underlying108 info110 (of_eq_true c10) ?_; clear HS; (try clear F); intro v12 w12 HS; rw [← e_y12.out] at HS; obtain ⟨B12, d12, rfl, m12⟩ := HS.form 6 rfl
   (try simp only [hpn, hpm] at HS)
   have F := HS.boxes; simp only [bxn] at F
   refine hK.out _ _ ⟨[], HS.arr [some 0, some 1, none, some 3] (by decide)⟩ (fun HH => ?_)
   clear hK K
   refine norm_ (a' := ?_) ?_ ?_
   rotate_left
   · show Act.put _ (some 21) _ = _; simp only [Act.put, ptn]; rfl
   refine drq_of [(7, some 22)] ?_
   repeat (refine drp HT ?_)
   refine drq_end ?_
   refine dr_last 8 HT rfl (by kernel_rfl) (by decide) (fun K hK => ?_)
   refine if_st 1 2 HS (seg := [.slice B12 y12.length d12]) ?_; clear HS; (try clear F); intro w13 HS F
   refine hK.out _ _ ?_
   clear hK K
   refine done_ (done_of HT.out (by kernel_rfl)) ?_
   (try clear F)
   have F := HS.boxes; simp only [bxn] at F
   go_wp2
   go_roundg k25
   case measure => have := HKk25.out; omega
   case rel => exact ⟨_, _, _, rfl, H, ⟨by have := HKk25.out; omega⟩, HS.pick [0, 1, 6] (by decide) (by rfl)⟩
/-! ### impl_replyItem: function 57 -/
def impl_replyItem.f (k : Nat) (a0 : S74) : Option (S110) := ((impl_bytesItem.f a0.f0).bind fun t8 => ((impl_IntItem.f k a0.f1).bind fun t10 => ((impl_IntItem.f k a0.f2).bind fun t12 => ((impl_IntItem.f k a0.f3).bind fun t14 => ((impl_IntItem.f k a0.f4).bind fun t16 => ((impl_IntItem.f k a0.f5).bind fun t18 => ((impl_Answer_96_0.f k a0.f6).bind fun t20 => ((impl_ListItem.f k ([t8, t10, t12, t14, t16, t18, t20] : List S110)).bind fun t23 => (some (⟨t23.f0, t23.f1, t23.f2⟩ : S110))))))))))
def impl_replyItem.T2 : Bool × List (List Nat × List Nat) := (true, [([], []), ([0], [0]), ([1], [1]), ([], []), ([3], [3]), ([4, 2], [4]), ([], []), ([6], [6]), ([7, 5], [7]), ([], []), ([9], [9]), ([10, 8], [10]), ([], []), ([12], [12]), ([13, 11], [13]), ([], []), ([15], [15]), ([16, 14], [16]), ([], []), ([18], [18]), ([], []), ([19, 20, 17], [19, 20]), ([2, 5, 8, 11, 14, 17, 21], [2, 5, 8, 11, 14, 17, 21]), ([22, 21], [22]), ([23, 23, 0, 1, 2, 3, 4, 5, 6, 7, 8, 9, 10, 11, 12, 13, 14, 15, 16, 17, 18, 19, 20, 21, 22, 23], [23])])
theorem impl_replyItem.tT2 : rtab .any (opsOf Tryz.f57 2) = impl_replyItem.T2 := by kernel_rfl
set_option maxHeartbeats 16000000 in
theorem impl_replyItem.calls {k : Nat} {a0 : S74} {Ap0 : Option Addr} {np0 cp0 : Nat} {r : S110} {w : World} (h : impl_replyItem.f k a0 = some r) (gp0 : k154.C w Ap0 np0 a0.f6) (lp0 : np0 ≤ cp0) :
    Calls Tryz.prog 57 #[.agg #[.string a0.f0, .int .i64 a0.f1, .int .i64 a0.f2, .int .i64 a0.f3, .int .i64 a0.f4, .int .i64 a0.f5, .slice Ap0 np0 cp0, .string a0.f7]] w (fun e w' => ∃ v0_ : Value, e = .returned (.agg #[.int .i64 r.f0, .string r.f1, v0_]) ∧ Hp noFP w w' [.own (Zd.slice 110 q110) r.f2 [v0_]]) := by
 obtain rfl := C_len gp0
 have HS := Hp.start w
 have H := Aside0.mk h
 clear h
 unfold impl_replyItem.f at H
 go_enter Tryz.func57, Tryz.ntmps57
 go_wp2_with (first | ((with_reducible refine gd 1 rfl ?_); refine ev_bx HS ?_; clear HS; (try clear F); intro g1 w1 HS F) | ((with_reducible refine gd 2 rfl ?_); refine ev_bx HS ?_; clear HS; (try clear F); intro g2 w2 HS F))
 replace H := zbind H; obtain ⟨t8, ht8, H⟩ := H
 replace H := zbind H; obtain ⟨t10, ht10, H⟩ := H
 replace H := zbind H; obtain ⟨t12, ht12, H⟩ := H
 replace H := zbind H; obtain ⟨t14, ht14, H⟩ := H
 replace H := zbind H; obtain ⟨t16, ht16, H⟩ := H
 replace H := zbind H; obtain ⟨t18, ht18, H⟩ := H
 replace H := zbind H; obtain ⟨t20, ht20, H⟩ := H
 replace H := zbind H; obtain ⟨t23, ht23, H⟩ := H
 refine dr_start [24] HS #[false, false, false, false, false, false, false, false, false, false, false, false, false, false, false, false, false, false, false, false, false, false, false, false, false] (by kernel_rfl) rfl rfl impl_replyItem.tT2 (fun w6 HT HS HH => ?_)
 (try clear F)
 refine drq_of [(0, some 4), (1, some 5), (3, some 7), (4, some 8), (6, some 10), (7, some 11), (9, some 13), (10, some 14), (12, some 16), (13, some 17), (15, some 19), (16, some 20), (18, some 22), (19, some 23), (20, some 24)] ?_
 repeat (first | refine drp HT ?_ | refine drt HT HH ?_)
 refine drq_end ?_
 refine dr1 2 HT fun K hK => ?_
 refine go_cl1 HS (impl_bytesItem.calls ht8.out) Tryz.func58 ?_; clear HS; (try clear F); intro v9 wt8 HS F; obtain ⟨B9, d9, rfl, m9⟩ := HS.form 2 rfl
 refine nrm 6 hK ⟨_, HS⟩ (fun HH => ?_); clear hK K
 refine dr1 5 HT fun K hK => ?_
 refine go_cl1 HS (impl_IntItem.calls ht10.out) Tryz.func94 ?_; clear HS; (try clear F); intro v11 wt10 HS F; obtain ⟨B11, d11, rfl, m11⟩ := HS.form 3 rfl
 refine nrm 9 hK ⟨_, HS⟩ (fun HH => ?_); clear hK K
 refine dr1 8 HT fun K hK => ?_
 refine go_cl1 HS (impl_IntItem.calls ht12.out) Tryz.func94 ?_; clear HS; (try clear F); intro v13 wt12 HS F; obtain ⟨B13, d13, rfl, m13⟩ := HS.form 4 rfl
 refine nrm 12 hK ⟨_, HS⟩ (fun HH => ?_); clear hK K
 refine dr1 11 HT fun K hK => ?_
 refine go_cl1 HS (impl_IntItem.calls ht14.out) Tryz.func94 ?_; clear HS; (try clear F); intro v15 wt14 HS F; obtain ⟨B15, d15, rfl, m15⟩ := HS.form 5 rfl
 refine nrm 15 hK ⟨_, HS⟩ (fun HH => ?_); clear hK K
 refine dr1 14 HT fun K hK => ?_
 refine go_cl1 HS (impl_IntItem.calls ht16.out) Tryz.func94 ?_; clear HS; (try clear F); intro v17 wt16 HS F; obtain ⟨B17, d17, rfl, m17⟩ := HS.form 6 rfl
 refine nrm 18 hK ⟨_, HS⟩ (fun HH => ?_); clear hK K
 refine dr1 17 HT fun K hK => ?_
 refine go_cl1 HS (impl_IntItem.calls ht18.out) Tryz.func94 ?_; clear HS; (try clear F); intro v19 wt18 HS F; obtain ⟨B19, d19, rfl, m19⟩ := HS.form 7 rfl
 refine nrm 21 hK ⟨_, HS⟩ (fun HH => ?_); clear hK K
 refine dr1 21 HT fun K hK => ?_
 refine go_cl1 HS (impl_Answer_96_0.calls ht20.out (HS.ro gp0) lp0) Tryz.func96 ?_; clear HS; (try clear F); intro v21 wt20 HS F; obtain ⟨B21, d21, rfl, m21⟩ := HS.form 8 rfl
 refine nrm 25 hK ⟨_, HS⟩ (fun HH => ?_); clear hK K
 refine dr1 22 HT fun K hK => ?_
 refine if_li q110 [2, 3, 4, 5, 6, 7, 8] ([t8, t10, t12, t14, t16, t18, t20] : List S110) ([.int .i64 t8.f0, .string t8.f1, .slice B9 t8.f2.length d9] ++ ([.int .i64 t10.f0, .string t10.f1, .slice B11 t10.f2.length d11] ++ ([.int .i64 t12.f0, .string t12.f1, .slice B13 t12.f2.length d13] ++ ([.int .i64 t14.f0, .string t14.f1, .slice B15 t14.f2.length d15] ++ ([.int .i64 t16.f0, .string t16.f1, .slice B17 t16.f2.length d17] ++ ([.int .i64 t18.f0, .string t18.f1, .slice B19 t18.f2.length d19] ++ ([.int .i64 t20.f0, .string t20.f1, .slice B21 t20.f2.length d21] ++ []))))))) HS (MadeL.cons (js1 := [2]) (c := [.int .i64 t8.f0, .string t8.f1, .slice B9 t8.f2.length d9]) rfl (fun S hd hh => q110_pack (x := t8) hd (hh 2 (.own (Zd.slice 110 q110) t8.f2 [.slice B9 t8.f2.length d9]) rfl) (by decide)) (MadeL.cons (js1 := [3]) (c := [.int .i64 t10.f0, .string t10.f1, .slice B11 t10.f2.length d11]) rfl (fun S hd hh => q110_pack (x := t10) hd (hh 3 (.own (Zd.slice 110 q110) t10.f2 [.slice B11 t10.f2.length d11]) rfl) (by decide)) (MadeL.cons (js1 := [4]) (c := [.int .i64 t12.f0, .string t12.f1, .slice B13 t12.f2.length d13]) rfl (fun S hd hh => q110_pack (x := t12) hd (hh 4 (.own (Zd.slice 110 q110) t12.f2 [.slice B13 t12.f2.length d13]) rfl) (by decide)) (MadeL.cons (js1 := [5]) (c := [.int .i64 t14.f0, .string t14.f1, .slice B15 t14.f2.length d15]) rfl (fun S hd hh => q110_pack (x := t14) hd (hh 5 (.own (Zd.slice 110 q110) t14.f2 [.slice B15 t14.f2.length d15]) rfl) (by decide)) (MadeL.cons (js1 := [6]) (c := [.int .i64 t16.f0, .string t16.f1, .slice B17 t16.f2.length d17]) rfl (fun S hd hh => q110_pack (x := t16) hd (hh 6 (.own (Zd.slice 110 q110) t16.f2 [.slice B17 t16.f2.length d17]) rfl) (by decide)) (MadeL.cons (js1 := [7]) (c := [.int .i64 t18.f0, .string t18.f1, .slice B19 t18.f2.length d19]) rfl (fun S hd hh => q110_pack (x := t18) hd (hh 7 (.own (Zd.slice 110 q110) t18.f2 [.slice B19 t18.f2.length d19]) rfl) (by decide)) (MadeL.cons (js1 := [8]) (c := [.int .i64 t20.f0, .string t20.f1, .slice B21 t20.f2.length d21]) rfl (fun S hd hh => q110_pack (x := t20) hd (hh 8 (.own (Zd.slice 110 q110) t20.f2 [.slice B21 t20.f2.length d21]) rfl) (by decide)) MadeL.nil (by decide)) (by decide)) (by decide)) (by decide)) (by decide)) (by decide)) (by decide)) ?_; clear HS; (try clear F); intro v22 w22 HS F; obtain ⟨B22, d22, rfl, m22⟩ := HS.formn 7 9 rfl rfl
 refine nrm 26 hK ⟨_, HS⟩ (fun HH => ?_); clear hK K
 refine dr1 23 HT fun K hK => ?_
 refine go_cl1 HS (impl_ListItem.calls ht23.out (HS.rd 9 rfl) m22) Tryz.func56 ?_; clear HS; (try clear F); intro v24 wt23 HS F; obtain ⟨B24, d24, rfl, m24⟩ := HS.form 10 rfl
 refine nrm 27 hK ⟨_, HS⟩ (fun HH => ?_); clear hK K
 refine dr_last 24 HT rfl (by kernel_rfl) (by decide) (fun K hK => ?_)
 refine if_st 1 0 HS (seg := [.int .i64 t23.f0, .string t23.f1, .slice B24 t23.f2.length d24]) ?_; clear HS; (try clear F); intro w25 HS F
 refine hK.out _ _ ?_
 clear hK K
 refine done_ (done_of HT.out (by kernel_rfl)) ?_
 (try clear F)
 have F := HS.boxes; simp only [bxn] at F
 obtain rfl := zsome H
 go_wp2
 exact bodyPost_ret (results_single rfl (.cell _ _ _ _ _ rfl (HS.boxAt (i := 1) rfl) Tryz.underlying110 rfl (by kernel_rfl) .nil)) rfl ⟨_, rfl, HS.pick [10] (by decide) (by rfl)⟩
/-! ### impl_ReplyText: function 25 -/
def impl_ReplyText.f (k : Nat) (a0 : S74) : Option (ByteArray × Bool) := ((impl_ReplyOk.f k a0).bind fun t3 => (if t3 = true then ((impl_replyItem.f k a0).bind fun t8 => ((impl_bytesItem.f a0.f7).bind fun t10 => ((impl_ListItem.f k ([t8, t10] : List S110)).bind fun t13 => ((impl_ItemText.f k t13).bind fun t15 => (some (t15.1, t15.2)))))) else (some ((⟨#[]⟩ : ByteArray), false))))
def impl_ReplyText.T3 : Bool × List (List Nat × List Nat) := (true, [([], []), ([0], [0]), ([], []), ([2], [2]), ([3, 1], [3]), ([1, 4], [1, 4]), ([5, 4], [5]), ([6, 6], [6]), ([7], [7]), ([7], [7]), ([8, 7, 0, 1, 2, 3, 4, 5, 6, 7, 8, 9], [8]), ([9, 10, 0, 1, 2, 3, 4, 5, 6, 7, 8, 9, 10], [9])])
theorem impl_ReplyText.tT3 : rtab .any (opsOf Tryz.f25 3) = impl_ReplyText.T3 := by kernel_rfl
set_option maxHeartbeats 16000000 in
theorem impl_ReplyText.calls {k : Nat} {a0 : S74} {Ap0 : Option Addr} {np0 cp0 : Nat} {r1 : ByteArray} {r2 : Bool} {w : World} (h : impl_ReplyText.f k a0 = some (r1, r2)) (gp0 : k154.C w Ap0 np0 a0.f6) (lp0 : np0 ≤ cp0) :
    Calls Tryz.prog 25 #[.agg #[.string a0.f0, .int .i64 a0.f1, .int .i64 a0.f2, .int .i64 a0.f3, .int .i64 a0.f4, .int .i64 a0.f5, .slice Ap0 np0 cp0, .string a0.f7]] w (fun e w' => e = .returned (.tuple #[.string r1, .bool r2]) ∧ Hp noFP w w' []) := by
 obtain rfl := C_len gp0
 have HS := Hp.start w
 have H := Aside0.mk h
 clear h
 unfold impl_ReplyText.f at H
 go_enter Tryz.func25, Tryz.ntmps25
 replace H := zbind H; obtain ⟨t3, ht3, H⟩ := H
 go_upto_if 6 with (first | ((with_reducible refine gd 1 rfl ?_); refine ev_bx HS ?_; clear HS; (try clear F); intro g1 w1 HS F) | ((with_reducible refine gd 5 rfl ?_); refine ev_cl HS (impl_ReplyOk.calls ht3.out (HS.ro gp0) lp0) Tryz.func54 ?_; clear HS; (try clear F); intro wt3 HS F))
 replace H := znifb H; rcases H with ⟨c5, H⟩ | ⟨c5, H⟩
 case inl =>
  subst c5
  (try simp only [dcn, if_true, Bool.false_eq_true, if_false])
  obtain ⟨rfl, rfl⟩ := zsome2 H
  go_wp2
  exact bodyPost_ret (results_list (rs := [.tmp 2, .tmp 3]) rfl (by simp) (.tmp (.tmp .nil))) rfl ⟨rfl, HS.pick [] (by decide) (by rfl)⟩
 subst c5
 (try simp only [dcn, if_true, Bool.false_eq_true, if_false])
 (try go_wp2)
 replace H := zbind H; obtain ⟨t8, ht8, H⟩ := H
 replace H := zbind H; obtain ⟨t10, ht10, H⟩ := H
 replace H := zbind H; obtain ⟨t13, ht13, H⟩ := H
 replace H := zbind H; obtain ⟨t15, ht15, H⟩ := H
 refine dr_start [] HS #[false, false, false, false, false, false, false, false, false, false, false, false] (by kernel_rfl) rfl rfl impl_ReplyText.tT3 (fun w7 HT HS HH => ?_)
 (try clear F)
 refine drq_of [(0, some 7), (2, some 9), (3, some 10)] ?_
 repeat (first | refine drp HT ?_ | refine drt HT HH ?_)
 refine drq_end ?_
 refine dr1 1 HT fun K hK => ?_
 refine go_cl1 HS (impl_replyItem.calls ht8.out (HS.ro gp0) lp0) Tryz.func57 ?_; clear HS; (try clear F); intro v9 wt8 HS F; obtain ⟨B9, d9, rfl, m9⟩ := HS.form 1 rfl
 refine nrm 8 hK ⟨_, HS⟩ (fun HH => ?_); clear hK K
 refine dr1 4 HT fun K hK => ?_
 refine go_cl1 HS (impl_bytesItem.calls ht10.out) Tryz.func58 ?_; clear HS; (try clear F); intro v11 wt10 HS F; obtain ⟨B11, d11, rfl, m11⟩ := HS.form 2 rfl
 refine nrm 11 hK ⟨_, HS⟩ (fun HH => ?_); clear hK K
 refine dr1 5 HT fun K hK => ?_
 refine if_li q110 [1, 2] ([t8, t10] : List S110) ([.int .i64 t8.f0, .string t8.f1, .slice B9 t8.f2.length d9] ++ ([.int .i64 t10.f0, .string t10.f1, .slice B11 t10.f2.length d11] ++ [])) HS (MadeL.cons (js1 := [1]) (c := [.int .i64 t8.f0, .string t8.f1, .slice B9 t8.f2.length d9]) rfl (fun S hd hh => q110_pack (x := t8) hd (hh 1 (.own (Zd.slice 110 q110) t8.f2 [.slice B9 t8.f2.length d9]) rfl) (by decide)) (MadeL.cons (js1 := [2]) (c := [.int .i64 t10.f0, .string t10.f1, .slice B11 t10.f2.length d11]) rfl (fun S hd hh => q110_pack (x := t10) hd (hh 2 (.own (Zd.slice 110 q110) t10.f2 [.slice B11 t10.f2.length d11]) rfl) (by decide)) MadeL.nil (by decide)) (by decide)) ?_; clear HS; (try clear F); intro v12 w12 HS F; obtain ⟨B12, d12, rfl, m12⟩ := HS.formn 2 3 rfl rfl
 refine nrm 12 hK ⟨_, HS⟩ (fun HH => ?_); clear hK K
 refine dr1 6 HT fun K hK => ?_
 refine go_cl1 HS (impl_ListItem.calls ht13.out (HS.rd 3 rfl) m12) Tryz.func56 ?_; clear HS; (try clear F); intro v14 wt13 HS F; obtain ⟨B14, d14, rfl, m14⟩ := HS.form 4 rfl
 refine nrm 13 hK ⟨_, HS⟩ (fun HH => ?_); clear hK K
 refine dr1 7 HT fun K hK => ?_
 refine go_cl HS (impl_ItemText.calls ht15.out (HS.rd 4 rfl) m14) Tryz.func55 ?_; clear HS; (try clear F); intro wt15 HS F
 refine nrm 14 hK ⟨_, HS⟩ (fun HH => ?_); clear hK K
 refine drq_of [(8, some 15), (9, some 16), (10, some 2), (11, some 3)] ?_
 repeat (refine drp HT ?_)
 refine drq_end ?_
 refine done_ (done_of HT.out (by kernel_rfl)) ?_
 (try clear F)
 have F := HS.boxes; simp only [bxn] at F
 obtain ⟨rfl, rfl⟩ := zsome2 H
 go_wp2
 exact bodyPost_ret (results_list (rs := [.tmp 2, .tmp 3]) rfl (by simp) (.tmp (.tmp .nil))) rfl ⟨rfl, HS.pick [] (by decide) (by rfl)⟩
/-! ### slices_Index_string_string: function 59 -/
def slices_Index_string_string.l0 : Nat → Int → (List ByteArray) → ByteArray → Option (Int)
  | 0, _, _, _ => none
  | k + 1, x4, a0, a1 => (if x4 < (a0.length : Int) then (if 0 ≤ x4 then (if x4 < (a0.length : Int) then (if a1.toList = (rdOf ByteArray.empty a0 x4).toList then (some x4) else (slices_Index_string_string.l0 k (wrap64 (x4 + 1)) a0 a1)) else none) else none) else (some (-1)))
def slices_Index_string_string.f (k : Nat) (a0 : (List ByteArray)) (a1 : ByteArray) : Option (Int) := (slices_Index_string_string.l0 k 0 a0 a1)
set_option maxHeartbeats 16000000 in
theorem slices_Index_string_string.calls {k : Nat} {a0 : (List ByteArray)} {a1 : ByteArray} {Ap0 : Option Addr} {np0 cp0 : Nat} {r : Int} {w : World} (h : slices_Index_string_string.f k a0 a1 = some r) (gp0 : Kd.string.C w Ap0 np0 a0) (lp0 : np0 ≤ cp0) :
    Calls Tryz.prog 59 #[.slice Ap0 np0 cp0, .string a1] w (fun e w' => e = .returned (.int .i64 r) ∧ Hp noFP w w' []) := by
 obtain rfl := C_len gp0
 have HS := Hp.start w
 have H := Aside0.mk h
 clear h
 unfold slices_Index_string_string.f at H
 go_enter Tryz.func59, Tryz.ntmps59
 go_wp2
 go_loopg [8] k (fun kq v_8 w' => ∃ (x4 : Int), v_8 = .int .i64 x4 ∧ Aside0 (slices_Index_string_string.l0 kq x4 a0 a1 = some r) ∧ Aside0 (kq ≤ k) ∧ Hp noFP w w' [])
 case atStart => exact ⟨_, rfl, H, ⟨Nat.le_refl _⟩, HS⟩
 case round =>
  clear HS H; (try clear F)
  obtain ⟨x4, rfl, H, HKk3, HS⟩ := hrel
  cases gk with
  | zero => exact absurd H.out (by simp [slices_Index_string_string.l0])
  | succ k3 =>
   simp only [slices_Index_string_string.l0] at H
   replace H := znif H; rcases H with ⟨c6, H⟩ | ⟨c6, H⟩
   case inl =>
    obtain rfl := zsome H
    go_wp2
    go_ret
    exact HS.pk
   replace H := zgo H; obtain ⟨c7, H⟩ := H
   replace H := zgo H; obtain ⟨c8, H⟩ := H
   obtain ⟨ad9, rfl, e9_0⟩ := Kd.at_string gp0 x4 (of_eq_true c7) (of_eq_true c8)
   have e9_0_9 := (HS.keepc e9_0)
   replace H := zif' H; rcases H with ⟨c10, H⟩ | ⟨c10, H⟩
   case inl =>
    have c10a := beq_iff_eq.mpr c10
    have c10b := bne_eq_false_iff_eq.mpr c10
    clear c10
    obtain rfl := zsome H
    go_wp2
    go_ret
    exact HS.pk
   have c10a := beq_eq_false_iff_ne.mpr c10
   have c10b := bne_iff_ne.mpr c10
   clear c10
   go_wp2
   go_roundg k3
   case measure => have := HKk3.out; omega
   case rel => exact ⟨_, rfl, H, ⟨by have := HKk3.out; omega⟩, HS.pick [] (by decide) (by rfl)⟩
/-! ### slices_Contains_string_string: function 26 -/
def slices_Contains_string_string.f (k : Nat) (a0 : (List ByteArray)) (a1 : ByteArray) : Option (Bool) := ((slices_Index_string_string.f k a0 a1).bind fun t1 => (some (decide (0 ≤ t1))))
set_option maxHeartbeats 16000000 in
theorem slices_Contains_string_string.calls {k : Nat} {a0 : (List ByteArray)} {a1 : ByteArray} {Ap0 : Option Addr} {np0 cp0 : Nat} {r : Bool} {w : World} (h : slices_Contains_string_string.f k a0 a1 = some r) (gp0 : Kd.string.C w Ap0 np0 a0) (lp0 : np0 ≤ cp0) :
    Calls Tryz.prog 26 #[.slice Ap0 np0 cp0, .string a1] w (fun e w' => e = .returned (.bool r) ∧ Hp noFP w w' []) := by
 obtain rfl := C_len gp0
 have HS := Hp.start w
 have H := Aside0.mk h
 clear h
 unfold slices_Contains_string_string.f at H
 go_enter Tryz.func26, Tryz.ntmps26
 replace H := zbind H; obtain ⟨t1, ht1, H⟩ := H
 obtain rfl := zsome H
 go_wp2_with (first | ((with_reducible refine gd 7 rfl ?_); refine ev_cl HS (slices_Index_string_string.calls ht1.out (HS.ro gp0) lp0) Tryz.func59 ?_; clear HS; (try clear F); intro wt1 HS F))
 go_ret
 exact HS.pk
/-! ### impl_SaidBy: function 7 -/
def impl_SaidBy.l0 : Nat → Int → S59 → Option (Bool)
  | 0, _, _ => none
  | k + 1, x6, a0 => (if x6 < (a0.f1.f3.length : Int) then (if 0 ≤ x6 then (if x6 < (a0.f1.f3.length : Int) then ((impl_ReplyText.f k (⟨(rd_T76 a0.f1.f3 x6).f1.f0, (rd_T76 a0.f1.f3 x6).f1.f1, (rd_T76 a0.f1.f3 x6).f1.f2, (rd_T76 a0.f1.f3 x6).f1.f3, (rd_T76 a0.f1.f3 x6).f1.f4, (rd_T76 a0.f1.f3 x6).f1.f5, (rd_T76 a0.f1.f3 x6).f1.f6, (rd_T76 a0.f1.f3 x6).f1.f7⟩ : S74)).bind fun t16 => (if t16.2 = true then ((slices_Contains_string_string.f k a0.f7 t16.1).bind fun t19 => (if t19 = true then (impl_SaidBy.l0 k (wrap64 (x6 + 1)) a0) else (some false))) else (some false))) else none) else none) else (some true))
def impl_SaidBy.f (k : Nat) (a0 : S59) : Option (Bool) := (impl_SaidBy.l0 k 0 a0)
set_option maxHeartbeats 16000000 in
theorem impl_SaidBy.calls {k : Nat} {a0 : S59} {Ap0 : Option Addr} {np0 cp0 : Nat} {Ap1 : Option Addr} {np1 cp1 : Nat} {Ap2 : Option Addr} {np2 cp2 : Nat} {Ap3 : Option Addr} {np3 cp3 : Nat} {Ap4 : Option Addr} {np4 cp4 : Nat} {Ap5 : Option Addr} {np5 cp5 : Nat} {Ap6 : Option Addr} {np6 cp6 : Nat} {Ap7 : Option Addr} {np7 cp7 : Nat} {Ap8 : Option Addr} {np8 cp8 : Nat} {Ap9 : Option Addr} {np9 cp9 : Nat} {Ap10 : Option Addr} {np10 cp10 : Nat} {Ap11 : Option Addr} {np11 cp11 : Nat} {Ap12 : Option Addr} {np12 cp12 : Nat} {Ap13 : Option Addr} {np13 cp13 : Nat} {r : Bool} {w : World} (h : impl_SaidBy.f k a0 = some r) (gp0 : k118.C w Ap0 np0 a0.f0.f0.f0) (lp0 : np0 ≤ cp0) (gp1 : k198.C w Ap1 np1 a0.f0.f0.f1) (lp1 : np1 ≤ cp1) (gp2 : k200.C w Ap2 np2 a0.f0.f0.f2) (lp2 : np2 ≤ cp2) (gp3 : k165.C w Ap3 np3 a0.f0.f1) (lp3 : np3 ≤ cp3) (gp4 : k167.C w Ap4 np4 a0.f0.f5) (lp4 : np4 ≤ cp4) (gp5 : k169.C w Ap5 np5 a0.f1.f2) (lp5 : np5 ≤ cp5) (gp6 : k76.C w Ap6 np6 a0.f1.f3) (lp6 : np6 ≤ cp6) (gp7 : (Kd.int .i64).C w Ap7 np7 a0.f1.f4) (lp7 : np7 ≤ cp7) (gp8 : k118.C w Ap8 np8 a0.f2) (lp8 : np8 ≤ cp8) (gp9 : k120.C w Ap9 np9 a0.f3) (lp9 : np9 ≤ cp9) (gp10 : (Kd.int .i64).C w Ap10 np10 a0.f4) (lp10 : np10 ≤ cp10) (gp11 : k122.C w Ap11 np11 a0.f5) (lp11 : np11 ≤ cp11) (gp12 : Kd.string.C w Ap12 np12 a0.f6) (lp12 : np12 ≤ cp12) (gp13 : Kd.string.C w Ap13 np13 a0.f7) (lp13 : np13 ≤ cp13) :
    Calls Tryz.prog 7 #[.agg #[.slice Ap0 np0 cp0, .slice Ap1 np1 cp1, .slice Ap2 np2 cp2, .slice Ap3 np3 cp3, .int .i64 a0.f0.f2, .int .i64 a0.f0.f3, .int .i64 a0.f0.f4, .slice Ap4 np4 cp4, .string a0.f1.f0, .int .i64 a0.f1.f1, .slice Ap5 np5 cp5, .slice Ap6 np6 cp6, .slice Ap7 np7 cp7, .slice Ap8 np8 cp8, .slice Ap9 np9 cp9, .slice Ap10 np10 cp10, .slice Ap11 np11 cp11, .slice Ap12 np12 cp12, .slice Ap13 np13 cp13]] w (fun e w' => e = .returned (.bool r) ∧ Hp noFP w w' []) := by
 obtain rfl := C_len gp0
 obtain rfl := C_len gp1
 obtain rfl := C_len gp2
 obtain rfl := C_len gp3
 obtain rfl := C_len gp4
 obtain rfl := C_len gp5
 obtain rfl := C_len gp6
 obtain rfl := C_len gp7
 obtain rfl := C_len gp8
 obtain rfl := C_len gp9
 obtain rfl := C_len gp10
 obtain rfl := C_len gp11
 obtain rfl := C_len gp12
 obtain rfl := C_len gp13
 have HS := Hp.start w
 have H := Aside0.mk h
 clear h
 unfold impl_SaidBy.f at H
 go_enter Tryz.func7, Tryz.ntmps7
 go_wp2_with (first | ((with_reducible refine gd 1 rfl ?_); refine ev_bx HS ?_; clear HS; (try clear F); intro g1 w1 HS F))
 go_loopg [11] k (fun kq v_11 w' => ∃ (x6 : Int), v_11 = .int .i64 x6 ∧ Aside0 (impl_SaidBy.l0 kq x6 a0 = some r) ∧ Aside0 (kq ≤ k) ∧ Hp noFP w w' [.box g1 [.slice Ap0 a0.f0.f0.f0.length cp0, .slice Ap1 a0.f0.f0.f1.length cp1, .slice Ap2 a0.f0.f0.f2.length cp2, .slice Ap3 a0.f0.f1.length cp3, .int .i64 a0.f0.f2, .int .i64 a0.f0.f3, .int .i64 a0.f0.f4, .slice Ap4 a0.f0.f5.length cp4, .string a0.f1.f0, .int .i64 a0.f1.f1, .slice Ap5 a0.f1.f2.length cp5, .slice Ap6 a0.f1.f3.length cp6, .slice Ap7 a0.f1.f4.length cp7, .slice Ap8 a0.f2.length cp8, .slice Ap9 a0.f3.length cp9, .slice Ap10 a0.f4.length cp10, .slice Ap11 a0.f5.length cp11, .slice Ap12 a0.f6.length cp12, .slice Ap13 a0.f7.length cp13] 59])
 case atStart => exact ⟨_, rfl, H, ⟨Nat.le_refl _⟩, HS⟩
 case round =>
  clear HS H; (try clear F)
  obtain ⟨x6, rfl, H, HKk5, HS⟩ := hrel
  have F := HS.boxes; simp only [bxn] at F
  cases gk with
  | zero => exact absurd H.out (by simp [impl_SaidBy.l0])
  | succ k5 =>
   simp only [impl_SaidBy.l0] at H
   replace H := znif H; rcases H with ⟨c8, H⟩ | ⟨c8, H⟩
   case inl =>
    obtain rfl := zsome H
    go_wp2
    go_ret
    exact HS.pk
   replace H := zgo H; obtain ⟨c9, H⟩ := H
   replace H := zgo H; obtain ⟨c10, H⟩ := H
   obtain ⟨ad11, B11_7, d11_7, rfl, e11_0, e11_1, e11_2, e11_3, e11_4, e11_5, e11_6, e11_7, e11_8, m11_7, y11_7⟩ := at_T76 gp6 x6 (of_eq_true c9) (of_eq_true c10)
   have e11_0_11 := (HS.keepc e11_0)
   have e11_1_11 := (HS.keepc e11_1)
   have e11_2_11 := (HS.keepc e11_2)
   have e11_3_11 := (HS.keepc e11_3)
   have e11_4_11 := (HS.keepc e11_4)
   have e11_5_11 := (HS.keepc e11_5)
   have e11_6_11 := (HS.keepc e11_6)
   have e11_7_11 := (HS.keepc e11_7)
   have e11_8_11 := (HS.keepc e11_8)
   replace H := zbind H; obtain ⟨t16, ht16, H⟩ := H
   replace H := znifb H; rcases H with ⟨c18, H⟩ | ⟨c18, H⟩
   case inl =>
    obtain rfl := zsome H
    go_wp2_with (first | ((with_reducible refine gd 4 rfl ?_); refine ev_bx HS ?_; clear HS; (try clear F); intro g4 w4 HS F) | ((with_reducible refine gate_store (p := 4) rfl ?_); refine ev_st 1 0 HS (seg := [.int .i64 ((rd_T76 a0.f1.f3 x6).f0), .string ((rd_T76 a0.f1.f3 x6).f1.f0), .int .i64 ((rd_T76 a0.f1.f3 x6).f1.f1), .int .i64 ((rd_T76 a0.f1.f3 x6).f1.f2), .int .i64 ((rd_T76 a0.f1.f3 x6).f1.f3), .int .i64 ((rd_T76 a0.f1.f3 x6).f1.f4), .int .i64 ((rd_T76 a0.f1.f3 x6).f1.f5), .slice B11_7 (rd_T76 a0.f1.f3 x6).f1.f6.length d11_7, .string ((rd_T76 a0.f1.f3 x6).f1.f7)]) ?_; clear HS; (try clear F); intro w14 HS F) | ((with_reducible refine gd 18 rfl ?_); refine ev_cl HS (impl_ReplyText.calls ht16.out (HS.ro y11_7) m11_7) Tryz.func25 ?_; clear HS; (try clear F); intro wt16 HS F; (try simp only [c18])))
    go_ret
    exact HS.pk
   replace H := zbind H; obtain ⟨t19, ht19, H⟩ := H
   go_upto_if 29 with (first | ((with_reducible refine gd 4 rfl ?_); refine ev_bx HS ?_; clear HS; (try clear F); intro g4 w4 HS F) | ((with_reducible refine gate_store (p := 4) rfl ?_); refine ev_st 1 0 HS (seg := [.int .i64 ((rd_T76 a0.f1.f3 x6).f0), .string ((rd_T76 a0.f1.f3 x6).f1.f0), .int .i64 ((rd_T76 a0.f1.f3 x6).f1.f1), .int .i64 ((rd_T76 a0.f1.f3 x6).f1.f2), .int .i64 ((rd_T76 a0.f1.f3 x6).f1.f3), .int .i64 ((rd_T76 a0.f1.f3 x6).f1.f4), .int .i64 ((rd_T76 a0.f1.f3 x6).f1.f5), .slice B11_7 (rd_T76 a0.f1.f3 x6).f1.f6.length d11_7, .string ((rd_T76 a0.f1.f3 x6).f1.f7)]) ?_; clear HS; (try clear F); intro w14 HS F) | ((with_reducible refine gd 18 rfl ?_); refine ev_cl HS (impl_ReplyText.calls ht16.out (HS.ro y11_7) m11_7) Tryz.func25 ?_; clear HS; (try clear F); intro wt16 HS F; (try simp only [c18])) | ((with_reducible refine gd 27 rfl ?_); refine gate_guard (by rfl) ?_; refine ev_cl HS (slices_Contains_string_string.calls ht19.out (HS.ro gp13) lp13) Tryz.func26 ?_; clear HS; (try clear F); intro wt19 HS F))
   replace H := znifb H; rcases H with ⟨c21, H⟩ | ⟨c21, H⟩
   case inl =>
    subst c21
    (try simp only [dcn, if_true, Bool.false_eq_true, if_false])
    obtain rfl := zsome H
    go_wp2
    go_ret
    exact HS.pk
   subst c21
   (try simp only [dcn, if_true, Bool.false_eq_true, if_false])
   go_wp2
   go_roundg k5
   case measure => have := HKk5.out; omega
   case rel => exact ⟨_, rfl, H, ⟨by have := HKk5.out; omega⟩, HS.pick [0] (by decide) (by rfl)⟩
/-! ### laws_eqIntS: function 31 -/
def laws_eqIntS.l0 : Nat → Int → (List Int) → (List Int) → Option (Bool)
  | 0, _, _, _ => none
  | k + 1, x5, a0, a1 => (if x5 < (a0.length : Int) then (if 0 ≤ x5 then (if x5 < (a0.length : Int) then (if x5 < (a1.length : Int) then (if (rd a0 x5) = (rd a1 x5) then (laws_eqIntS.l0 k (wrap64 (x5 + 1)) a0 a1) else (some false)) else none) else none) else none) else (some true))
def laws_eqIntS.f (k : Nat) (a0 : (List Int)) (a1 : (List Int)) : Option (Bool) := (if (a0.length : Int) = (a1.length : Int) then (laws_eqIntS.l0 k 0 a0 a1) else (some false))
def laws_eqIntS.T6 : Bool × List (List Nat × List Nat) := (true, [([], []), ([], []), ([0, 1], [0, 1]), ([2], [2]), ([], []), ([], []), ([4, 5], [4, 5]), ([6], [6]), ([3, 7], [3, 7])])
theorem laws_eqIntS.tT6 : rtab .any (opsOf Tryz.f31 6) = laws_eqIntS.T6 := by kernel_rfl
set_option maxHeartbeats 16000000 in
theorem laws_eqIntS.calls {k : Nat} {a0 : (List Int)} {a1 : (List Int)} {Ap0 : Option Addr} {np0 cp0 : Nat} {Ap1 : Option Addr} {np1 cp1 : Nat} {r : Bool} {w : World} (h : laws_eqIntS.f k a0 a1 = some r) (gp0 : (Kd.int .i64).C w Ap0 np0 a0) (lp0 : np0 ≤ cp0) (gp1 : (Kd.int .i64).C w Ap1 np1 a1) (lp1 : np1 ≤ cp1) :
    Calls Tryz.prog 31 #[.slice Ap0 np0 cp0, .slice Ap1 np1 cp1] w (fun e w' => e = .returned (.bool r) ∧ Hp noFP w w' []) := by
 obtain rfl := C_len gp0
 obtain rfl := C_len gp1
 have HS := Hp.start w
 have H := Aside0.mk h
 clear h
 unfold laws_eqIntS.f at H
 go_enter Tryz.func31, Tryz.ntmps31
 replace H := znif' H; rcases H with ⟨c1, H⟩ | ⟨c1, H⟩
 case inl =>
  have c1a := beq_eq_false_iff_ne.mpr c1
  have c1b := bne_iff_ne.mpr c1
  clear c1
  obtain rfl := zsome H
  go_wp2
  go_ret
  exact HS.pk
 have c1a := beq_iff_eq.mpr c1
 have c1b := bne_eq_false_iff_eq.mpr c1
 clear c1
 go_wp2
 go_loopg [5] k (fun kq v_5 w' => ∃ (x5 : Int), v_5 = .int .i64 x5 ∧ Aside0 (laws_eqIntS.l0 kq x5 a0 a1 = some r) ∧ Aside0 (kq ≤ k) ∧ Hp noFP w w' [])
 case atStart => exact ⟨_, rfl, H, ⟨Nat.le_refl _⟩, HS⟩
 case round =>
  clear HS H; (try clear F)
  obtain ⟨x5, rfl, H, HKk4, HS⟩ := hrel
  cases gk with
  | zero => exact absurd H.out (by simp [laws_eqIntS.l0])
  | succ k4 =>
   simp only [laws_eqIntS.l0] at H
   replace H := znif H; rcases H with ⟨c7, H⟩ | ⟨c7, H⟩
   case inl =>
    obtain rfl := zsome H
    go_wp2
    go_ret
    exact HS.pk
   (try go_wp2)
   replace H := zgo H; obtain ⟨c3, H⟩ := H
   replace H := zgo H; obtain ⟨c8, H⟩ := H
   obtain ⟨ad10, rfl, e10_0⟩ := Kd.at_int gp0 x5 (of_eq_true c3) (of_eq_true c8)
   replace H := zgo H; obtain ⟨c12, H⟩ := H
   obtain ⟨ad13, rfl, e13_0⟩ := Kd.at_int gp1 x5 (of_eq_true c3) (of_eq_true c12)
   refine dr_start [] HS #[false, false, false, false, false, false, false, false, false] (by kernel_rfl) rfl rfl laws_eqIntS.tT6 (fun w9 HT HS HH => ?_)
   (try clear F)
   refine drq_of [(0, some 17), (1, some 18), (2, some 19)] ?_
   repeat (refine drp HT ?_)
   refine drq_end ?_
   refine dr_take 3 (some 20) HT HH (v := ?_) (a' := ?_) rfl rfl (by kernel_rfl) (fun _ _ _ h => h) (.inl ⟨by rfl, ?_⟩) ?_ ?_
   rotate_left
   · rintro w' ⟨rs', HS'⟩; have e10_0 := (HS'.keepc e10_0); go_simp; with_reducible rfl
   rotate_left
   · simp only [Act.put, ptn]; rfl
   refine drq_of [(4, some 21), (5, some 22), (6, some 23)] ?_
   repeat (refine drp HT ?_)
   refine drq_end ?_
   refine dr_take 7 (some 24) HT HH (v := ?_) (a' := ?_) rfl rfl (by kernel_rfl) (fun _ _ _ h => h) (.inl ⟨by rfl, ?_⟩) ?_ ?_
   rotate_left
   · rintro w' ⟨rs', HS'⟩; have e13_0 := (HS'.keepc e13_0); go_simp; with_reducible rfl
   rotate_left
   · simp only [Act.put, ptn]; rfl
   refine drq_of [(8, some 25)] ?_
   repeat (refine drp HT ?_)
   refine drq_end ?_
   refine done_ (done_of HT.out (by kernel_rfl)) ?_
   replace H := znif' H; rcases H with ⟨c11, H⟩ | ⟨c11, H⟩
   case inl =>
    have c11a := beq_eq_false_iff_ne.mpr c11
    have c11b := bne_iff_ne.mpr c11
    clear c11
    (try simp only [c11a, c11b, dcn])
    obtain rfl := zsome H
    go_wp2
    go_ret
    exact HS.pk
   have c11a := beq_iff_eq.mpr c11
   have c11b := bne_eq_false_iff_eq.mpr c11
   clear c11
   (try simp only [c11a, c11b, dcn])
   go_wp2
   go_roundg k4
   case measure => have := HKk4.out; omega
   case rel => exact ⟨_, rfl, H, ⟨by have := HKk4.out; omega⟩, HS.pick [] (by decide) (by rfl)⟩
/-! ### laws_eqStringS: function 33 -/
def laws_eqStringS.l0 : Nat → Int → (List ByteArray) → (List ByteArray) → Option (Bool)
  | 0, _, _, _ => none
  | k + 1, x5, a0, a1 => (if x5 < (a0.length : Int) then (if 0 ≤ x5 then (if x5 < (a0.length : Int) then (if x5 < (a1.length : Int) then (if (rdOf ByteArray.empty a0 x5).toList = (rdOf ByteArray.empty a1 x5).toList then (laws_eqStringS.l0 k (wrap64 (x5 + 1)) a0 a1) else (some false)) else none) else none) else none) else (some true))
def laws_eqStringS.f (k : Nat) (a0 : (List ByteArray)) (a1 : (List ByteArray)) : Option (Bool) := (if (a0.length : Int) = (a1.length : Int) then (laws_eqStringS.l0 k 0 a0 a1) else (some false))
def laws_eqStringS.T6 : Bool × List (List Nat × List Nat) := (true, [([], []), ([], []), ([0, 1], [0, 1]), ([2], [2]), ([], []), ([], []), ([4, 5], [4, 5]), ([6], [6]), ([3, 7], [3, 7])])
theorem laws_eqStringS.tT6 : rtab .any (opsOf Tryz.f33 6) = laws_eqStringS.T6 := by kernel_rfl
set_option maxHeartbeats 16000000 in
theorem laws_eqStringS.calls {k : Nat} {a0 : (List ByteArray)} {a1 : (List ByteArray)} {Ap0 : Option Addr} {np0 cp0 : Nat} {Ap1 : Option Addr} {np1 cp1 : Nat} {r : Bool} {w : World} (h : laws_eqStringS.f k a0 a1 = some r) (gp0 : Kd.string.C w Ap0 np0 a0) (lp0 : np0 ≤ cp0) (gp1 : Kd.string.C w Ap1 np1 a1) (lp1 : np1 ≤ cp1) :
    Calls Tryz.prog 33 #[.slice Ap0 np0 cp0, .slice Ap1 np1 cp1] w (fun e w' => e = .returned (.bool r) ∧ Hp noFP w w' []) := by
 obtain rfl := C_len gp0
 obtain rfl := C_len gp1
 have HS := Hp.start w
 have H := Aside0.mk h
 clear h
 unfold laws_eqStringS.f at H
 go_enter Tryz.func33, Tryz.ntmps33
 replace H := znif' H; rcases H with ⟨c1, H⟩ | ⟨c1, H⟩
 case inl =>
  have c1a := beq_eq_false_iff_ne.mpr c1
  have c1b := bne_iff_ne.mpr c1
  clear c1
  obtain rfl := zsome H
  go_wp2
  go_ret
  exact HS.pk
 have c1a := beq_iff_eq.mpr c1
 have c1b := bne_eq_false_iff_eq.mpr c1
 clear c1
 go_wp2
 go_loopg [5] k (fun kq v_5 w' => ∃ (x5 : Int), v_5 = .int .i64 x5 ∧ Aside0 (laws_eqStringS.l0 kq x5 a0 a1 = some r) ∧ Aside0 (kq ≤ k) ∧ Hp noFP w w' [])
 case atStart => exact ⟨_, rfl, H, ⟨Nat.le_refl _⟩, HS⟩
 case round =>
  clear HS H; (try clear F)
  obtain ⟨x5, rfl, H, HKk4, HS⟩ := hrel
  cases gk with
  | zero => exact absurd H.out (by simp [laws_eqStringS.l0])
  | succ k4 =>
   simp only [laws_eqStringS.l0] at H
   replace H := znif H; rcases H with ⟨c7, H⟩ | ⟨c7, H⟩
   case inl =>
    obtain rfl := zsome H
    go_wp2
    go_ret
    exact HS.pk
   (try go_wp2)
   replace H := zgo H; obtain ⟨c3, H⟩ := H
   replace H := zgo H; obtain ⟨c8, H⟩ := H
   obtain ⟨ad10, rfl, e10_0⟩ := Kd.at_string gp0 x5 (of_eq_true c3) (of_eq_true c8)
   replace H := zgo H; obtain ⟨c12, H⟩ := H
   obtain ⟨ad13, rfl, e13_0⟩ := Kd.at_string gp1 x5 (of_eq_true c3) (of_eq_true c12)
   refine dr_start [] HS #[false, false, false, false, false, false, false, false, false] (by kernel_rfl) rfl rfl laws_eqStringS.tT6 (fun w9 HT HS HH => ?_)
   (try clear F)
   refine drq_of [(0, some 17), (1, some 18), (2, some 19)] ?_
   repeat (refine drp HT ?_)
   refine drq_end ?_
   refine dr_take 3 (some 20) HT HH (v := ?_) (a' := ?_) rfl rfl (by kernel_rfl) (fun _ _ _ h => h) (.inl ⟨by rfl, ?_⟩) ?_ ?_
   rotate_left
   · rintro w' ⟨rs', HS'⟩; have e10_0 := (HS'.keepc e10_0); go_simp; with_reducible rfl
   rotate_left
   · simp only [Act.put, ptn]; rfl
   refine drq_of [(4, some 21), (5, some 22), (6, some 23)] ?_
   repeat (refine drp HT ?_)
   refine drq_end ?_
   refine dr_take 7 (some 24) HT HH (v := ?_) (a' := ?_) rfl rfl (by kernel_rfl) (fun _ _ _ h => h) (.inl ⟨by rfl, ?_⟩) ?_ ?_
   rotate_left
   · rintro w' ⟨rs', HS'⟩; have e13_0 := (HS'.keepc e13_0); go_simp; with_reducible rfl
   rotate_left
   · simp only [Act.put, ptn]; rfl
   refine drq_of [(8, some 25)] ?_
   repeat (refine drp HT ?_)
   refine drq_end ?_
   refine done_ (done_of HT.out (by kernel_rfl)) ?_
   replace H := znif' H; rcases H with ⟨c11, H⟩ | ⟨c11, H⟩
   case inl =>
    have c11a := beq_eq_false_iff_ne.mpr c11
    have c11b := bne_iff_ne.mpr c11
    clear c11
    (try simp only [c11a, c11b, dcn])
    obtain rfl := zsome H
    go_wp2
    go_ret
    exact HS.pk
   have c11a := beq_iff_eq.mpr c11
   have c11b := bne_eq_false_iff_eq.mpr c11
   clear c11
   (try simp only [c11a, c11b, dcn])
   go_wp2
   go_roundg k4
   case measure => have := HKk4.out; omega
   case rel => exact ⟨_, rfl, H, ⟨by have := HKk4.out; omega⟩, HS.pick [] (by decide) (by rfl)⟩
end Go.Proofs.YtfiifjlapaefaaaGreat.F
