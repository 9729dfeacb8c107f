/- Functions of the program and of the law, and that their calls do what is written here. -/
import Derived.Test.YtfiifjlapaefaaaGreatZgFnExactSaidByb
import Derived.Test.YtfiifjlapaefaaaGreatZgFnExactSaidByc
namespace Go.Proofs.YtfiifjlapaefaaaGreat.F
open Go.RowKit Go.Proofs.YtfiifjlapaefaaaGreatW.PrintWords Go.Proofs.YtfiifjlapaefaaaGreatW.PrintLast Go.Proofs.YtfiifjlapaefaaaGreatW.PrintMore Go.Proofs.YtfiifjlapaefaaaGreat.Z
attribute [local go_sem] max2_int min2_int max_two min_two max_three min_three max_four min_four
set_option linter.unusedVariables false
set_option linter.unusedSimpArgs false
set_option maxRecDepth 100000
/-! ### spec_l15Item: function 44 -/
def spec_l15Item.l0 : Nat → (List S110) → Int → S74 → Option (S110)
  | 0, _, _, _ => none
  | k + 1, l28, x30, a0 => (if x30 < (a0.f6.length : Int) then (if 0 ≤ x30 then (if x30 < (a0.f6.length : Int) then ((spec_IntItem.f k ((rd_T154 a0.f6 x30).f0)).bind fun t8 => ((spec_IntItem.f k ((rd_T154 a0.f6 x30).f1)).bind fun t10 => ((spec_l14Texts.f k ((rd_T154 a0.f6 x30).f2)).bind fun t12 => ((spec_l14Texts.f k ((rd_T154 a0.f6 x30).f3)).bind fun t14 => (if l28.length + 1 ≤ 2932031007402 then (lets (l28 ++ ([(⟨48, (⟨#[]⟩ : ByteArray), ([t8, t10, t12, t14] : List S110)⟩ : S110)] : List S110)) fun y19 => (spec_l15Item.l0 k y19 (wrap64 (x30 + 1)) a0)) else none))))) else none) else none) else ((spec_l09Bytes.f a0.f0).bind fun t21 => ((spec_IntItem.f k a0.f1).bind fun t23 => ((spec_IntItem.f k a0.f2).bind fun t25 => ((spec_IntItem.f k a0.f3).bind fun t31 => ((spec_IntItem.f k a0.f4).bind fun t37 => ((spec_IntItem.f k a0.f5).bind fun t40 => (some (⟨48, (⟨#[]⟩ : ByteArray), ([t21, t23, t25, t31, t37, t40, (⟨48, (⟨#[]⟩ : ByteArray), l28⟩ : S110)] : List S110)⟩ : S110)))))))))
def spec_l15Item.f (k : Nat) (a0 : S74) : Option (S110) := (spec_l15Item.l0 k [] 0 a0)
def spec_l15Item.T6 : Bool × List (List Nat × List Nat) := (true, [([], []), ([0], [0]), ([], []), ([2], [2]), ([3], [3]), ([], []), ([5], [5]), ([6, 4], [6]), ([], []), ([8], [8]), ([9, 7], [9]), ([], []), ([11], [11]), ([12, 10], [12]), ([4, 7, 10, 13], [4, 7, 10, 13]), ([14], [14]), ([15], [15]), ([1, 16, 13], [1, 16]), ([0, 1, 2, 3, 4, 5, 6, 7, 8, 9, 10, 11, 12, 13, 14, 15, 16, 17], []), ([18, 17, 17, 0, 1, 2, 3, 4, 5, 6, 7, 8, 9, 10, 11, 12, 13, 14, 15, 16, 17], [17, 18])])
theorem spec_l15Item.tT6 : rtab .any (opsOf Tryz.f44 6) = spec_l15Item.T6 := by kernel_rfl
def spec_l15Item.T7 : Bool × List (List Nat × List Nat) := (true, [([], []), ([0], [0]), ([1], [1]), ([], []), ([3], [3]), ([4, 2], [4]), ([], []), ([6], [6]), ([7, 5], [7]), ([], []), ([9], [9]), ([10, 8], [10]), ([], []), ([12], [12]), ([13, 11], [13]), ([], []), ([15], [15]), ([16, 14], [16]), ([], []), ([2, 5, 8, 11, 14, 17, 18], [2, 5, 8, 11, 14, 17, 18]), ([19], [19]), ([20, 17, 0, 1, 2, 3, 4, 5, 6, 7, 8, 9, 10, 11, 12, 13, 14, 15, 16, 17, 18, 19, 20], [20])])
theorem spec_l15Item.tT7 : rtab .any (opsOf Tryz.f44 7) = spec_l15Item.T7 := by kernel_rfl
set_option maxHeartbeats 16000000 in
theorem spec_l15Item.calls {k : Nat} {a0 : S74} {Ap0 : Option Addr} {np0 cp0 : Nat} {r : S110} {w : World} (h : spec_l15Item.f k a0 = some r) (gp0 : k154.C w Ap0 np0 a0.f6) (lp0 : np0 ≤ cp0) :
    Calls Tryz.prog 44 #[.agg #[.string a0.f0, .int .i64 a0.f1, .int .i64 a0.f2, .int .i64 a0.f3, .int .i64 a0.f4, .int .i64 a0.f5, .slice Ap0 np0 cp0, .string a0.f7]] w (fun e w' => ∃ v0_ : Value, e = .returned (.agg #[.int .i64 r.f0, .string r.f1, v0_]) ∧ Hp noFP w w' [.own (Zd.slice 110 q110) r.f2 [v0_]]) := by
 obtain rfl := C_len gp0
 have HS := Hp.start w
 have H := Aside0.mk h
 clear h
 unfold spec_l15Item.f at H
 go_enter Tryz.func44, Tryz.ntmps44
 go_wp2_with (first | ((with_reducible refine gd 1 rfl ?_); refine ev_bx HS ?_; clear HS; (try clear F); intro g1 w1 HS F) | ((with_reducible refine gd 2 rfl ?_); refine ev_bx HS ?_; clear HS; (try clear F); intro g2 w2 HS F) | ((with_reducible refine gd 3 rfl ?_); refine ev_bx HS ?_; clear HS; (try clear F); intro g3 w3 HS F) | ((with_reducible refine gate_store (p := 3) rfl ?_); refine ev_st 2 0 HS (seg := [.int .i64 48, .string (⟨#[]⟩ : ByteArray), .slice none 0 0]) ?_; clear HS; (try clear F); intro w7 HS F))
 replace HS := HS.nil 110 q110
 go_loopg [4] k (fun kq v_4 w' => ∃ (l28 : List S110) (v29 : Value) (x30 : Int), v_4 = .int .i64 x30 ∧ Aside0 (spec_l15Item.l0 kq l28 x30 a0 = some r) ∧ Aside0 (kq ≤ k) ∧ Hp noFP w w' [.box g1 [.string a0.f0, .int .i64 a0.f1, .int .i64 a0.f2, .int .i64 a0.f3, .int .i64 a0.f4, .int .i64 a0.f5, .slice Ap0 a0.f6.length cp0, .string a0.f7] 74, .box g2 [.int .i64 0, .string (⟨#[]⟩ : ByteArray), .slice none 0 0] 110, .box g3 [.int .i64 48, .string (⟨#[]⟩ : ByteArray), v29] 110, .own (Zd.slice 110 q110) l28 [v29]])
 case atStart => exact ⟨_, _, _, rfl, H, ⟨Nat.le_refl _⟩, HS⟩
 case round =>
  clear HS H; (try clear F)
  obtain ⟨l28, v29, x30, rfl, H, HKk27, HS⟩ := hrel
  obtain ⟨B29, d29, rfl, m29⟩ := HS.form 3 rfl
  have F := HS.boxes; simp only [bxn] at F
  cases gk with
  | zero => exact absurd H.out (by simp [spec_l15Item.l0])
  | succ k27 =>
   simp only [spec_l15Item.l0] at H
   replace H := znif H; rcases H with ⟨c32, H⟩ | ⟨c32, H⟩
   case inl =>
    (try go_wp2)
    replace H := zbind H; obtain ⟨t21, ht21, H⟩ := H
    replace H := zbind H; obtain ⟨t23, ht23, H⟩ := H
    replace H := zbind H; obtain ⟨t25, ht25, H⟩ := H
    replace H := zbind H; obtain ⟨t31, ht31, H⟩ := H
    replace H := zbind H; obtain ⟨t37, ht37, H⟩ := H
    replace H := zbind H; obtain ⟨t40, ht40, H⟩ := H
    refine dr_start2 [.box g1 [.string a0.f0, .int .i64 a0.f1, .int .i64 a0.f2, .int .i64 a0.f3, .int .i64 a0.f4, .int .i64 a0.f5, .slice Ap0 a0.f6.length cp0, .string a0.f7] 74, .box g2 [.int .i64 0, .string (⟨#[]⟩ : ByteArray), .slice none 0 0] 110, .box g3 [.int .i64 48, .string (⟨#[]⟩ : ByteArray), .slice B29 l28.length d29] 110, .emp] [21] HS (HS.arr [some 0, some 1, some 2, none] (by decide)) #[false, false, false, false, false, false, false, false, false, false, false, false, false, false, false, false, false, false, false, false, false, false] (by kernel_rfl) rfl rfl spec_l15Item.tT7 (fun w44 HT HS HH => ?_)
    (try clear F)
    refine drq_of [(0, some 38), (1, some 39), (3, some 41), (4, some 42), (6, some 44), (7, some 45), (9, some 47), (10, some 48), (12, some 50), (13, some 51), (15, some 53), (16, some 54), (18, some 56)] ?_
    repeat (first | refine drp HT ?_ | refine drt HT HH ?_)
    refine drq_end ?_
    refine dr1 2 HT fun K hK => ?_
    refine go_cl1 HS (spec_l09Bytes.calls ht21.out) Tryz.func45 ?_; clear HS; (try clear F); intro v22 wt21 HS F; obtain ⟨B22, d22, rfl, m22⟩ := HS.form 4 rfl
    refine hK.out _ _ ⟨[], HS.arr [some 0, some 1, some 2, none] (by decide)⟩ (fun HH => ?_)
    clear hK K
    refine norm_ (a' := ?_) ?_ ?_
    rotate_left
    · show Act.put _ (some 40) _ = _; simp only [Act.put, ptn]; rfl
    refine dr1 5 HT fun K hK => ?_
    refine go_cl1 HS (spec_IntItem.calls ht23.out) Tryz.func78 ?_; clear HS; (try clear F); intro v24 wt23 HS F; obtain ⟨B24, d24, rfl, m24⟩ := HS.form 5 rfl
    refine hK.out _ _ ⟨[], HS.arr [some 0, some 1, some 2, none] (by decide)⟩ (fun HH => ?_)
    clear hK K
    refine norm_ (a' := ?_) ?_ ?_
    rotate_left
    · show Act.put _ (some 43) _ = _; simp only [Act.put, ptn]; rfl
    refine dr1 8 HT fun K hK => ?_
    refine go_cl1 HS (spec_IntItem.calls ht25.out) Tryz.func78 ?_; clear HS; (try clear F); intro v26 wt25 HS F; obtain ⟨B26, d26, rfl, m26⟩ := HS.form 6 rfl
    refine hK.out _ _ ⟨[], HS.arr [some 0, some 1, some 2, none] (by decide)⟩ (fun HH => ?_)
    clear hK K
    refine norm_ (a' := ?_) ?_ ?_
    rotate_left
    · show Act.put _ (some 46) _ = _; simp only [Act.put, ptn]; rfl
    refine dr1 11 HT fun K hK => ?_
    refine go_cl1 HS (spec_IntItem.calls ht31.out) Tryz.func78 ?_; clear HS; (try clear F); intro v36 wt31 HS F; obtain ⟨B36, d36, rfl, m36⟩ := HS.form 7 rfl
    refine hK.out _ _ ⟨[], HS.arr [some 0, some 1, some 2, none] (by decide)⟩ (fun HH => ?_)
    clear hK K
    refine norm_ (a' := ?_) ?_ ?_
    rotate_left
    · show Act.put _ (some 49) _ = _; simp only [Act.put, ptn]; rfl
    refine dr1 14 HT fun K hK => ?_
    refine go_cl1 HS (spec_IntItem.calls ht37.out) Tryz.func78 ?_; clear HS; (try clear F); intro v39 wt37 HS F; obtain ⟨B39, d39, rfl, m39⟩ := HS.form 8 rfl
    refine hK.out _ _ ⟨[], HS.arr [some 0, some 1, some 2, none] (by decide)⟩ (fun HH => ?_)
    clear hK K
    refine norm_ (a' := ?_) ?_ ?_
    rotate_left
    · show Act.put _ (some 52) _ = _; simp only [Act.put, ptn]; rfl
    refine dr1 17 HT fun K hK => ?_
    refine go_cl1 HS (spec_IntItem.calls ht40.out) Tryz.func78 ?_; clear HS; (try clear F); intro v42 wt40 HS F; obtain ⟨B42, d42, rfl, m42⟩ := HS.form 9 rfl
    refine hK.out _ _ ⟨[], HS.arr [some 0, some 1, some 2, none] (by decide)⟩ (fun HH => ?_)
    clear hK K
    refine norm_ (a' := ?_) ?_ ?_
    rotate_left
    · show Act.put _ (some 55) _ = _; simp only [Act.put, ptn]; rfl
    refine dr1 19 HT fun K hK => ?_
    refine if_li q110 [4, 5, 6, 7, 8, 9, 3] ([t21, t23, t25, t31, t37, t40, (⟨48, (⟨#[]⟩ : ByteArray), l28⟩ : S110)] : List S110) ([.int .i64 t21.f0, .string t21.f1, .slice B22 t21.f2.length d22] ++ ([.int .i64 t23.f0, .string t23.f1, .slice B24 t23.f2.length d24] ++ ([.int .i64 t25.f0, .string t25.f1, .slice B26 t25.f2.length d26] ++ ([.int .i64 t31.f0, .string t31.f1, .slice B36 t31.f2.length d36] ++ ([.int .i64 t37.f0, .string t37.f1, .slice B39 t37.f2.length d39] ++ ([.int .i64 t40.f0, .string t40.f1, .slice B42 t40.f2.length d42] ++ ([.int .i64 48, .string (⟨#[]⟩ : ByteArray), .slice B29 l28.length d29] ++ []))))))) HS (MadeL.cons (js1 := [4]) (c := [.int .i64 t21.f0, .string t21.f1, .slice B22 t21.f2.length d22]) rfl (fun S hd hh => q110_pack (x := t21) hd (hh 4 (.own (Zd.slice 110 q110) t21.f2 [.slice B22 t21.f2.length d22]) rfl) (by decide)) (MadeL.cons (js1 := [5]) (c := [.int .i64 t23.f0, .string t23.f1, .slice B24 t23.f2.length d24]) rfl (fun S hd hh => q110_pack (x := t23) hd (hh 5 (.own (Zd.slice 110 q110) t23.f2 [.slice B24 t23.f2.length d24]) rfl) (by decide)) (MadeL.cons (js1 := [6]) (c := [.int .i64 t25.f0, .string t25.f1, .slice B26 t25.f2.length d26]) rfl (fun S hd hh => q110_pack (x := t25) hd (hh 6 (.own (Zd.slice 110 q110) t25.f2 [.slice B26 t25.f2.length d26]) rfl) (by decide)) (MadeL.cons (js1 := [7]) (c := [.int .i64 t31.f0, .string t31.f1, .slice B36 t31.f2.length d36]) rfl (fun S hd hh => q110_pack (x := t31) hd (hh 7 (.own (Zd.slice 110 q110) t31.f2 [.slice B36 t31.f2.length d36]) rfl) (by decide)) (MadeL.cons (js1 := [8]) (c := [.int .i64 t37.f0, .string t37.f1, .slice B39 t37.f2.length d39]) rfl (fun S hd hh => q110_pack (x := t37) hd (hh 8 (.own (Zd.slice 110 q110) t37.f2 [.slice B39 t37.f2.length d39]) rfl) (by decide)) (MadeL.cons (js1 := [9]) (c := [.int .i64 t40.f0, .string t40.f1, .slice B42 t40.f2.length d42]) rfl (fun S hd hh => q110_pack (x := t40) hd (hh 9 (.own (Zd.slice 110 q110) t40.f2 [.slice B42 t40.f2.length d42]) rfl) (by decide)) (MadeL.cons (js1 := [3]) (c := [.int .i64 48, .string (⟨#[]⟩ : ByteArray), .slice B29 l28.length d29]) rfl (fun S hd hh => q110_pack (x := (⟨48, (⟨#[]⟩ : ByteArray), l28⟩ : S110)) hd (hh 3 (.own (Zd.slice 110 q110) l28 [.slice B29 l28.length d29]) rfl) (by decide)) MadeL.nil (by decide)) (by decide)) (by decide)) (by decide)) (by decide)) (by decide)) (by decide)) ?_; clear HS; (try clear F); intro v43 w43 HS F; obtain ⟨B43, d43, rfl, m43⟩ := HS.formn 7 10 rfl rfl
    refine hK.out _ _ ⟨[], HS.arr [some 0, some 1, some 2, none] (by decide)⟩ (fun HH => ?_)
    clear hK K
    refine norm_ (a' := ?_) ?_ ?_
    rotate_left
    · show Act.put _ (some 57) _ = _; simp only [Act.put, ptn]; rfl
    refine drq_of [(20, some 58)] ?_
    repeat (refine drp HT ?_)
    refine drq_end ?_
    refine dr_last 21 HT rfl (by kernel_rfl) (by decide) (fun K hK => ?_)
    refine if_st 1 0 HS (seg := [.int .i64 48, .string (⟨#[]⟩ : ByteArray), .slice B43 7 d43]) ?_; clear HS; (try clear F); intro w46 HS F
    refine hK.out _ _ ?_
    clear hK K
    refine done_ (done_of HT.out (by kernel_rfl)) ?_
    (try clear F)
    have F := HS.boxes; simp only [bxn] at F
    obtain rfl := zsome H
    go_wp2
    exact bodyPost_ret (results_single rfl (.cell _ _ _ _ _ rfl (HS.boxAt (i := 1) rfl) Tryz.underlying110 rfl (by kernel_rfl) .nil)) rfl ⟨_, rfl, HS.pick [10] (by decide) (by rfl)⟩
   replace H := zgo H; obtain ⟨c33, H⟩ := H
   replace H := zgo H; obtain ⟨c34, H⟩ := H
   obtain ⟨ad35, B35_2, d35_2, B35_3, d35_3, rfl, e35_0, e35_1, e35_2, e35_3, m35_2, y35_2, m35_3, y35_3⟩ := at_T154 gp0 x30 (of_eq_true c33) (of_eq_true c34)
   have e35_0_35 := (HS.keepc e35_0)
   have e35_1_35 := (HS.keepc e35_1)
   have e35_2_35 := (HS.keepc e35_2)
   have e35_3_35 := (HS.keepc e35_3)
   go_wp2_with (first | ((with_reducible refine gd 5 rfl ?_); refine ev_bx HS ?_; clear HS; (try clear F); intro g5 w5 HS F) | ((with_reducible refine gate_store (p := 5) rfl ?_); refine ev_st 4 0 HS (seg := [.int .i64 ((rd_T154 a0.f6 x30).f0), .int .i64 ((rd_T154 a0.f6 x30).f1), .slice B35_2 (rd_T154 a0.f6 x30).f2.length d35_2, .slice B35_3 (rd_T154 a0.f6 x30).f3.length d35_3]) ?_; clear HS; (try clear F); intro w38 HS F))
   replace H := zbind H; obtain ⟨t8, ht8, H⟩ := H
   replace H := zbind H; obtain ⟨t10, ht10, H⟩ := H
   replace H := zbind H; obtain ⟨t12, ht12, H⟩ := H
   replace H := zbind H; obtain ⟨t14, ht14, H⟩ := H
   replace H := zgo H; obtain ⟨c18, H⟩ := H
   replace H := zlets H; obtain ⟨y19, e_y19, H⟩ := H
   refine dr_start2 [.box g1 [.string a0.f0, .int .i64 a0.f1, .int .i64 a0.f2, .int .i64 a0.f3, .int .i64 a0.f4, .int .i64 a0.f5, .slice (some ad35) a0.f6.length cp0, .string a0.f7] 74, .box g2 [.int .i64 0, .string (⟨#[]⟩ : ByteArray), .slice none 0 0] 110, .box g3 [.int .i64 48, .string (⟨#[]⟩ : ByteArray), .slice B29 l28.length d29] 110, .emp, .box g5 [.int .i64 ((rd_T154 a0.f6 x30).f0), .int .i64 ((rd_T154 a0.f6 x30).f1), .slice B35_2 (rd_T154 a0.f6 x30).f2.length d35_2, .slice B35_3 (rd_T154 a0.f6 x30).f3.length d35_3] 154] [19] HS (HS.arr [some 0, some 1, some 2, none, some 4] (by decide)) #[false, false, false, false, false, false, false, false, false, false, false, false, false, false, false, false, false, false, false, false] (by kernel_rfl) rfl rfl spec_l15Item.tT6 (fun w41 HT HS HH => ?_)
   (try clear F)
   refine drq_of [(0, some 19), (1, some 20), (2, some 21), (3, some 22), (5, some 24), (6, some 25), (8, some 27), (9, some 28), (11, some 30), (12, some 31)] ?_
   repeat (first | refine drp HT ?_ | refine drt HT HH ?_)
   refine drq_end ?_
   refine dr1 4 HT fun K hK => ?_
   refine go_cl1 HS (spec_IntItem.calls ht8.out) Tryz.func78 ?_; clear HS; (try clear F); intro v9 wt8 HS F; obtain ⟨B9, d9, rfl, m9⟩ := HS.form 5 rfl
   refine hK.out _ _ ⟨[], HS.arr [some 0, some 1, some 2, none, some 4] (by decide)⟩ (fun HH => ?_)
   clear hK K
   refine norm_ (a' := ?_) ?_ ?_
   rotate_left
   · show Act.put _ (some 23) _ = _; simp only [Act.put, ptn]; rfl
   refine dr1 7 HT fun K hK => ?_
   refine go_cl1 HS (spec_IntItem.calls ht10.out) Tryz.func78 ?_; clear HS; (try clear F); intro v11 wt10 HS F; obtain ⟨B11, d11, rfl, m11⟩ := HS.form 6 rfl
   refine hK.out _ _ ⟨[], HS.arr [some 0, some 1, some 2, none, some 4] (by decide)⟩ (fun HH => ?_)
   clear hK K
   refine norm_ (a' := ?_) ?_ ?_
   rotate_left
   · show Act.put _ (some 26) _ = _; simp only [Act.put, ptn]; rfl
   refine dr1 10 HT fun K hK => ?_
   refine go_cl1 HS (spec_l14Texts.calls ht12.out (HS.ro y35_2) m35_2) Tryz.func79 ?_; clear HS; (try clear F); intro v13 wt12 HS F; obtain ⟨B13, d13, rfl, m13⟩ := HS.form 7 rfl
   refine hK.out _ _ ⟨[], HS.arr [some 0, some 1, some 2, none, some 4] (by decide)⟩ (fun HH => ?_)
   clear hK K
   refine norm_ (a' := ?_) ?_ ?_
   rotate_left
   · show Act.put _ (some 29) _ = _; simp only [Act.put, ptn]; rfl
   refine dr1 13 HT fun K hK => ?_
   refine go_cl1 HS (spec_l14Texts.calls ht14.out (HS.ro y35_3) m35_3) Tryz.func79 ?_; clear HS; (try clear F); intro v15 wt14 HS F; obtain ⟨B15, d15, rfl, m15⟩ := HS.form 8 rfl
   refine hK.out _ _ ⟨[], HS.arr [some 0, some 1, some 2, none, some 4] (by decide)⟩ (fun HH => ?_)
   clear hK K
   refine norm_ (a' := ?_) ?_ ?_
   rotate_left
   · show Act.put _ (some 32) _ = _; simp only [Act.put, ptn]; rfl
   refine dr1 14 HT fun K hK => ?_
   refine if_li q110 [5, 6, 7, 8] ([t8, t10, t12, t14] : List S110) ([.int .i64 t8.f0, .string t8.f1, .slice B9 t8.f2.length d9] ++ ([.int .i64 t10.f0, .string t10.f1, .slice B11 t10.f2.length d11] ++ ([.int .i64 t12.f0, .string t12.f1, .slice B13 t12.f2.length d13] ++ ([.int .i64 t14.f0, .string t14.f1, .slice B15 t14.f2.length d15] ++ [])))) HS (MadeL.cons (js1 := [5]) (c := [.int .i64 t8.f0, .string t8.f1, .slice B9 t8.f2.length d9]) rfl (fun S hd hh => q110_pack (x := t8) hd (hh 5 (.own (Zd.slice 110 q110) t8.f2 [.slice B9 t8.f2.length d9]) rfl) (by decide)) (MadeL.cons (js1 := [6]) (c := [.int .i64 t10.f0, .string t10.f1, .slice B11 t10.f2.length d11]) rfl (fun S hd hh => q110_pack (x := t10) hd (hh 6 (.own (Zd.slice 110 q110) t10.f2 [.slice B11 t10.f2.length d11]) rfl) (by decide)) (MadeL.cons (js1 := [7]) (c := [.int .i64 t12.f0, .string t12.f1, .slice B13 t12.f2.length d13]) rfl (fun S hd hh => q110_pack (x := t12) hd (hh 7 (.own (Zd.slice 110 q110) t12.f2 [.slice B13 t12.f2.length d13]) rfl) (by decide)) (MadeL.cons (js1 := [8]) (c := [.int .i64 t14.f0, .string t14.f1, .slice B15 t14.f2.length d15]) rfl (fun S hd hh => q110_pack (x := t14) hd (hh 8 (.own (Zd.slice 110 q110) t14.f2 [.slice B15 t14.f2.length d15]) rfl) (by decide)) MadeL.nil (by decide)) (by decide)) (by decide)) (by decide)) ?_; clear HS; (try clear F); intro v16 w16 HS F; obtain ⟨B16, d16, rfl, m16⟩ := HS.formn 4 9 rfl rfl
   refine hK.out _ _ ⟨[], HS.arr [some 0, some 1, some 2, none, some 4] (by decide)⟩ (fun HH => ?_)
   clear hK K
   refine norm_ (a' := ?_) ?_ ?_
   rotate_left
   · show Act.put _ (some 33) _ = _; simp only [Act.put, ptn]; rfl
   refine drq_of [(15, some 34)] ?_
   repeat (refine drp HT ?_)
   refine drq_end ?_
   refine dr1 16 HT fun K hK => ?_
   refine if_li q110 [9] ([(⟨48, (⟨#[]⟩ : ByteArray), ([t8, t10, t12, t14] : List S110)⟩ : S110)] : List S110) ([.int .i64 48, .string (⟨#[]⟩ : ByteArray), .slice B16 4 d16] ++ []) HS (MadeL.cons (js1 := [9]) (c := [.int .i64 48, .string (⟨#[]⟩ : ByteArray), .slice B16 4 d16]) rfl (fun S hd hh => q110_pack (x := (⟨48, (⟨#[]⟩ : ByteArray), ([t8, t10, t12, t14] : List S110)⟩ : S110)) hd (hh 9 (.own (Zd.slice 110 q110) ([t8, t10, t12, t14] : List S110) [.slice B16 4 d16]) rfl) (by decide)) MadeL.nil (by decide)) ?_; clear HS; (try clear F); intro v17 w17 HS F; obtain ⟨B17, d17, rfl, m17⟩ := HS.formn 1 10 rfl rfl
   refine hK.out _ _ ⟨[], HS.arr [some 0, some 1, some 2, none, some 4] (by decide)⟩ (fun HH => ?_)
   clear hK K
   refine norm_ (a' := ?_) ?_ ?_
   rotate_left
   · show Act.put _ (some 35) _ = _; simp only [Act.put, ptn]; rfl
   refine dr1 17 HT fun K hK => ?_
   refine wp_ap q110 3 10 HS rfl rfl Tryz.underlying108 info110 (of_eq_true c18) ?_; clear HS; (try clear F); intro v19 w19 HS; rw [← e_y19.out] at HS; obtain ⟨B19, d19, rfl, m19⟩ := HS.form 11 rfl
   (try simp only [hpn, hpm] at HS)
   have F := HS.boxes; simp only [bxn] at F
   refine hK.out _ _ ⟨[], HS.arr [some 0, some 1, some 2, none, some 4] (by decide)⟩ (fun HH => ?_)
   clear hK K
   refine norm_ (a' := ?_) ?_ ?_
   rotate_left
   · show Act.put _ (some 36) _ = _; simp only [Act.put, ptn]; rfl
   refine drq_of [(18, some 37)] ?_
   repeat (refine drp HT ?_)
   refine drq_end ?_
   refine dr_last 19 HT rfl (by kernel_rfl) (by decide) (fun K hK => ?_)
   refine if_st 2 2 HS (seg := [.slice B19 y19.length d19]) ?_; clear HS; (try clear F); intro w20 HS F
   refine hK.out _ _ ?_
   clear hK K
   refine done_ (done_of HT.out (by kernel_rfl)) ?_
   (try clear F)
   have F := HS.boxes; simp only [bxn] at F
   go_wp2
   go_roundg k27
   case measure => have := HKk27.out; omega
   case rel => exact ⟨_, _, _, rfl, H, ⟨by have := HKk27.out; omega⟩, HS.pick [0, 1, 2, 11] (by decide) (by rfl)⟩
/-! ### spec_ReplyText: function 16 -/
def spec_ReplyText.f (k : Nat) (a0 : S74) : Option (ByteArray × Bool) := ((spec_ReplyOk.f k a0).bind fun t3 => (if t3 = true then ((spec_l15Item.f k a0).bind fun t8 => ((spec_l09Bytes.f a0.f7).bind fun t10 => ((spec_ItemText.f k (⟨48, (⟨#[]⟩ : ByteArray), ([t8, t10] : List S110)⟩ : S110)).bind fun t13 => (some (t13.1, t13.2))))) else (some ((⟨#[]⟩ : ByteArray), false))))
def spec_ReplyText.T3 : Bool × List (List Nat × List Nat) := (true, [([], []), ([0], [0]), ([], []), ([2], [2]), ([3, 1], [3]), ([1, 4], [1, 4]), ([5], [5]), ([6, 4], [6]), ([7], [7]), ([7], [7]), ([8, 7, 0, 1, 2, 3, 4, 5, 6, 7, 8, 9], [8]), ([9, 10, 0, 1, 2, 3, 4, 5, 6, 7, 8, 9, 10], [9])])
theorem spec_ReplyText.tT3 : rtab .any (opsOf Tryz.f16 3) = spec_ReplyText.T3 := by kernel_rfl
set_option maxHeartbeats 16000000 in
theorem spec_ReplyText.calls {k : Nat} {a0 : S74} {Ap0 : Option Addr} {np0 cp0 : Nat} {r1 : ByteArray} {r2 : Bool} {w : World} (h : spec_ReplyText.f k a0 = some (r1, r2)) (gp0 : k154.C w Ap0 np0 a0.f6) (lp0 : np0 ≤ cp0) :
    Calls Tryz.prog 16 #[.agg #[.string a0.f0, .int .i64 a0.f1, .int .i64 a0.f2, .int .i64 a0.f3, .int .i64 a0.f4, .int .i64 a0.f5, .slice Ap0 np0 cp0, .string a0.f7]] w (fun e w' => e = .returned (.tuple #[.string r1, .bool r2]) ∧ Hp noFP w w' []) := by
 obtain rfl := C_len gp0
 have HS := Hp.start w
 have H := Aside0.mk h
 clear h
 unfold spec_ReplyText.f at H
 go_enter Tryz.func16, Tryz.ntmps16
 replace H := zbind H; obtain ⟨t3, ht3, H⟩ := H
 go_upto_if 6 with (first | ((with_reducible refine gd 1 rfl ?_); refine ev_bx HS ?_; clear HS; (try clear F); intro g1 w1 HS F) | ((with_reducible refine gd 5 rfl ?_); refine ev_cl HS (spec_ReplyOk.calls ht3.out (HS.ro gp0) lp0) Tryz.func42 ?_; clear HS; (try clear F); intro wt3 HS F))
 replace H := znifb H; rcases H with ⟨c5, H⟩ | ⟨c5, H⟩
 case inl =>
  subst c5
  (try simp only [dcn, if_true, Bool.false_eq_true, if_false])
  obtain ⟨rfl, rfl⟩ := zsome2 H
  go_wp2
  exact bodyPost_ret (results_list (rs := [.tmp 2, .tmp 3]) rfl (by simp) (.tmp (.tmp .nil))) rfl ⟨rfl, HS.pick [] (by decide) (by rfl)⟩
 subst c5
 (try simp only [dcn, if_true, Bool.false_eq_true, if_false])
 (try go_wp2)
 replace H := zbind H; obtain ⟨t8, ht8, H⟩ := H
 replace H := zbind H; obtain ⟨t10, ht10, H⟩ := H
 replace H := zbind H; obtain ⟨t13, ht13, H⟩ := H
 refine dr_start [] HS #[false, false, false, false, false, false, false, false, false, false, false, false] (by kernel_rfl) rfl rfl spec_ReplyText.tT3 (fun w7 HT HS HH => ?_)
 (try clear F)
 refine drq_of [(0, some 7), (2, some 9), (3, some 10)] ?_
 repeat (first | refine drp HT ?_ | refine drt HT HH ?_)
 refine drq_end ?_
 refine dr1 1 HT fun K hK => ?_
 refine go_cl1 HS (spec_l15Item.calls ht8.out (HS.ro gp0) lp0) Tryz.func44 ?_; clear HS; (try clear F); intro v9 wt8 HS F; obtain ⟨B9, d9, rfl, m9⟩ := HS.form 1 rfl
 refine nrm 8 hK ⟨_, HS⟩ (fun HH => ?_); clear hK K
 refine dr1 4 HT fun K hK => ?_
 refine go_cl1 HS (spec_l09Bytes.calls ht10.out) Tryz.func45 ?_; clear HS; (try clear F); intro v11 wt10 HS F; obtain ⟨B11, d11, rfl, m11⟩ := HS.form 2 rfl
 refine nrm 11 hK ⟨_, HS⟩ (fun HH => ?_); clear hK K
 refine dr1 5 HT fun K hK => ?_
 refine if_li q110 [1, 2] ([t8, t10] : List S110) ([.int .i64 t8.f0, .string t8.f1, .slice B9 t8.f2.length d9] ++ ([.int .i64 t10.f0, .string t10.f1, .slice B11 t10.f2.length d11] ++ [])) HS (MadeL.cons (js1 := [1]) (c := [.int .i64 t8.f0, .string t8.f1, .slice B9 t8.f2.length d9]) rfl (fun S hd hh => q110_pack (x := t8) hd (hh 1 (.own (Zd.slice 110 q110) t8.f2 [.slice B9 t8.f2.length d9]) rfl) (by decide)) (MadeL.cons (js1 := [2]) (c := [.int .i64 t10.f0, .string t10.f1, .slice B11 t10.f2.length d11]) rfl (fun S hd hh => q110_pack (x := t10) hd (hh 2 (.own (Zd.slice 110 q110) t10.f2 [.slice B11 t10.f2.length d11]) rfl) (by decide)) MadeL.nil (by decide)) (by decide)) ?_; clear HS; (try clear F); intro v12 w12 HS F; obtain ⟨B12, d12, rfl, m12⟩ := HS.formn 2 3 rfl rfl
 refine nrm 12 hK ⟨_, HS⟩ (fun HH => ?_); clear hK K
 refine drq_of [(6, some 13)] ?_
 repeat (refine drp HT ?_)
 refine drq_end ?_
 refine dr1 7 HT fun K hK => ?_
 refine go_cl HS (spec_ItemText.calls ht13.out (HS.rd 3 rfl) m12) Tryz.func43 ?_; clear HS; (try clear F); intro wt13 HS F
 refine nrm 14 hK ⟨_, HS⟩ (fun HH => ?_); clear hK K
 refine drq_of [(8, some 15), (9, some 16), (10, some 2), (11, some 3)] ?_
 repeat (refine drp HT ?_)
 refine drq_end ?_
 refine done_ (done_of HT.out (by kernel_rfl)) ?_
 (try clear F)
 have F := HS.boxes; simp only [bxn] at F
 obtain ⟨rfl, rfl⟩ := zsome2 H
 go_wp2
 exact bodyPost_ret (results_list (rs := [.tmp 2, .tmp 3]) rfl (by simp) (.tmp (.tmp .nil))) rfl ⟨rfl, HS.pick [] (by decide) (by rfl)⟩
/-! ### spec_l13In: function 17 -/
def spec_l13In.l0 : Nat → Int → (List ByteArray) → ByteArray → Option (Bool)
  | 0, _, _, _ => none
  | k + 1, x4, a0, a1 => (if x4 < (a0.length : Int) then (if 0 ≤ x4 then (if x4 < (a0.length : Int) then (if (rdOf ByteArray.empty a0 x4).toList = a1.toList then (some true) else (spec_l13In.l0 k (wrap64 (x4 + 1)) a0 a1)) else none) else none) else (some false))
def spec_l13In.f (k : Nat) (a0 : (List ByteArray)) (a1 : ByteArray) : Option (Bool) := (spec_l13In.l0 k 0 a0 a1)
set_option maxHeartbeats 16000000 in
theorem spec_l13In.calls {k : Nat} {a0 : (List ByteArray)} {a1 : ByteArray} {Ap0 : Option Addr} {np0 cp0 : Nat} {r : Bool} {w : World} (h : spec_l13In.f k a0 a1 = some r) (gp0 : Kd.string.C w Ap0 np0 a0) (lp0 : np0 ≤ cp0) :
    Calls Tryz.prog 17 #[.slice Ap0 np0 cp0, .string a1] w (fun e w' => e = .returned (.bool r) ∧ Hp noFP w w' []) := by
 obtain rfl := C_len gp0
 have HS := Hp.start w
 have H := Aside0.mk h
 clear h
 unfold spec_l13In.f at H
 go_enter Tryz.func17, Tryz.ntmps17
 go_wp2
 go_loopg [5] k (fun kq v_5 w' => ∃ (x4 : Int), v_5 = .int .i64 x4 ∧ Aside0 (spec_l13In.l0 kq x4 a0 a1 = some r) ∧ Aside0 (kq ≤ k) ∧ Hp noFP w w' [])
 case atStart => exact ⟨_, rfl, H, ⟨Nat.le_refl _⟩, HS⟩
 case round =>
  clear HS H; (try clear F)
  obtain ⟨x4, rfl, H, HKk3, HS⟩ := hrel
  cases gk with
  | zero => exact absurd H.out (by simp [spec_l13In.l0])
  | succ k3 =>
   simp only [spec_l13In.l0] at H
   replace H := znif H; rcases H with ⟨c6, H⟩ | ⟨c6, H⟩
   case inl =>
    obtain rfl := zsome H
    go_wp2
    go_ret
    exact HS.pk
   replace H := zgo H; obtain ⟨c7, H⟩ := H
   replace H := zgo H; obtain ⟨c8, H⟩ := H
   obtain ⟨ad9, rfl, e9_0⟩ := Kd.at_string gp0 x4 (of_eq_true c7) (of_eq_true c8)
   have e9_0_9 := (HS.keepc e9_0)
   replace H := zif' H; rcases H with ⟨c10, H⟩ | ⟨c10, H⟩
   case inl =>
    have c10a := beq_iff_eq.mpr c10
    have c10b := bne_eq_false_iff_eq.mpr c10
    clear c10
    obtain rfl := zsome H
    go_wp2
    go_ret
    exact HS.pk
   have c10a := beq_eq_false_iff_ne.mpr c10
   have c10b := bne_iff_ne.mpr c10
   clear c10
   go_wp2
   go_roundg k3
   case measure => have := HKk3.out; omega
   case rel => exact ⟨_, rfl, H, ⟨by have := HKk3.out; omega⟩, HS.pick [] (by decide) (by rfl)⟩
/-! ### spec_SaidBy: function 5 -/
def spec_SaidBy.l0 : Nat → Int → S59 → Option (Bool)
  | 0, _, _ => none
  | k + 1, x6, a0 => (if x6 < (a0.f1.f3.length : Int) then (if 0 ≤ x6 then (if x6 < (a0.f1.f3.length : Int) then ((spec_ReplyText.f k (⟨(rd_T76 a0.f1.f3 x6).f1.f0, (rd_T76 a0.f1.f3 x6).f1.f1, (rd_T76 a0.f1.f3 x6).f1.f2, (rd_T76 a0.f1.f3 x6).f1.f3, (rd_T76 a0.f1.f3 x6).f1.f4, (rd_T76 a0.f1.f3 x6).f1.f5, (rd_T76 a0.f1.f3 x6).f1.f6, (rd_T76 a0.f1.f3 x6).f1.f7⟩ : S74)).bind fun t12 => (if t12.2 = true then ((spec_l13In.f k a0.f7 t12.1).bind fun t15 => (if t15 = true then (spec_SaidBy.l0 k (wrap64 (x6 + 1)) a0) else (some false))) else (some false))) else none) else none) else (some true))
def spec_SaidBy.f (k : Nat) (a0 : S59) : Option (Bool) := (spec_SaidBy.l0 k 0 a0)
set_option maxHeartbeats 16000000 in
theorem spec_SaidBy.calls {k : Nat} {a0 : S59} {Ap0 : Option Addr} {np0 cp0 : Nat} {Ap1 : Option Addr} {np1 cp1 : Nat} {Ap2 : Option Addr} {np2 cp2 : Nat} {Ap3 : Option Addr} {np3 cp3 : Nat} {Ap4 : Option Addr} {np4 cp4 : Nat} {Ap5 : Option Addr} {np5 cp5 : Nat} {Ap6 : Option Addr} {np6 cp6 : Nat} {Ap7 : Option Addr} {np7 cp7 : Nat} {Ap8 : Option Addr} {np8 cp8 : Nat} {Ap9 : Option Addr} {np9 cp9 : Nat} {Ap10 : Option Addr} {np10 cp10 : Nat} {Ap11 : Option Addr} {np11 cp11 : Nat} {Ap12 : Option Addr} {np12 cp12 : Nat} {Ap13 : Option Addr} {np13 cp13 : Nat} {r : Bool} {w : World} (h : spec_SaidBy.f k a0 = some r) (gp0 : k118.C w Ap0 np0 a0.f0.f0.f0) (lp0 : np0 ≤ cp0) (gp1 : k198.C w Ap1 np1 a0.f0.f0.f1) (lp1 : np1 ≤ cp1) (gp2 : k200.C w Ap2 np2 a0.f0.f0.f2) (lp2 : np2 ≤ cp2) (gp3 : k165.C w Ap3 np3 a0.f0.f1) (lp3 : np3 ≤ cp3) (gp4 : k167.C w Ap4 np4 a0.f0.f5) (lp4 : np4 ≤ cp4) (gp5 : k169.C w Ap5 np5 a0.f1.f2) (lp5 : np5 ≤ cp5) (gp6 : k76.C w Ap6 np6 a0.f1.f3) (lp6 : np6 ≤ cp6) (gp7 : (Kd.int .i64).C w Ap7 np7 a0.f1.f4) (lp7 : np7 ≤ cp7) (gp8 : k118.C w Ap8 np8 a0.f2) (lp8 : np8 ≤ cp8) (gp9 : k120.C w Ap9 np9 a0.f3) (lp9 : np9 ≤ cp9) (gp10 : (Kd.int .i64).C w Ap10 np10 a0.f4) (lp10 : np10 ≤ cp10) (gp11 : k122.C w Ap11 np11 a0.f5) (lp11 : np11 ≤ cp11) (gp12 : Kd.string.C w Ap12 np12 a0.f6) (lp12 : np12 ≤ cp12) (gp13 : Kd.string.C w Ap13 np13 a0.f7) (lp13 : np13 ≤ cp13) :
    Calls Tryz.prog 5 #[.agg #[.slice Ap0 np0 cp0, .slice Ap1 np1 cp1, .slice Ap2 np2 cp2, .slice Ap3 np3 cp3, .int .i64 a0.f0.f2, .int .i64 a0.f0.f3, .int .i64 a0.f0.f4, .slice Ap4 np4 cp4, .string a0.f1.f0, .int .i64 a0.f1.f1, .slice Ap5 np5 cp5, .slice Ap6 np6 cp6, .slice Ap7 np7 cp7, .slice Ap8 np8 cp8, .slice Ap9 np9 cp9, .slice Ap10 np10 cp10, .slice Ap11 np11 cp11, .slice Ap12 np12 cp12, .slice Ap13 np13 cp13]] w (fun e w' => e = .returned (.bool r) ∧ Hp noFP w w' []) := by
 obtain rfl := C_len gp0
 obtain rfl := C_len gp1
 obtain rfl := C_len gp2
 obtain rfl := C_len gp3
 obtain rfl := C_len gp4
 obtain rfl := C_len gp5
 obtain rfl := C_len gp6
 obtain rfl := C_len gp7
 obtain rfl := C_len gp8
 obtain rfl := C_len gp9
 obtain rfl := C_len gp10
 obtain rfl := C_len gp11
 obtain rfl := C_len gp12
 obtain rfl := C_len gp13
 have HS := Hp.start w
 have H := Aside0.mk h
 clear h
 unfold spec_SaidBy.f at H
 go_enter Tryz.func5, Tryz.ntmps5
 go_wp2_with (first | ((with_reducible refine gd 1 rfl ?_); refine ev_bx HS ?_; clear HS; (try clear F); intro g1 w1 HS F))
 go_loopg [3] k (fun kq v_3 w' => ∃ (x6 : Int), v_3 = .int .i64 x6 ∧ Aside0 (spec_SaidBy.l0 kq x6 a0 = some r) ∧ Aside0 (kq ≤ k) ∧ Hp noFP w w' [.box g1 [.slice Ap0 a0.f0.f0.f0.length cp0, .slice Ap1 a0.f0.f0.f1.length cp1, .slice Ap2 a0.f0.f0.f2.length cp2, .slice Ap3 a0.f0.f1.length cp3, .int .i64 a0.f0.f2, .int .i64 a0.f0.f3, .int .i64 a0.f0.f4, .slice Ap4 a0.f0.f5.length cp4, .string a0.f1.f0, .int .i64 a0.f1.f1, .slice Ap5 a0.f1.f2.length cp5, .slice Ap6 a0.f1.f3.length cp6, .slice Ap7 a0.f1.f4.length cp7, .slice Ap8 a0.f2.length cp8, .slice Ap9 a0.f3.length cp9, .slice Ap10 a0.f4.length cp10, .slice Ap11 a0.f5.length cp11, .slice Ap12 a0.f6.length cp12, .slice Ap13 a0.f7.length cp13] 59])
 case atStart => exact ⟨_, rfl, H, ⟨Nat.le_refl _⟩, HS⟩
 case round =>
  clear HS H; (try clear F)
  obtain ⟨x6, rfl, H, HKk5, HS⟩ := hrel
  have F := HS.boxes; simp only [bxn] at F
  cases gk with
  | zero => exact absurd H.out (by simp [spec_SaidBy.l0])
  | succ k5 =>
   simp only [spec_SaidBy.l0] at H
   replace H := znif H; rcases H with ⟨c8, H⟩ | ⟨c8, H⟩
   case inl =>
    obtain rfl := zsome H
    go_wp2
    go_ret
    exact HS.pk
   replace H := zgo H; obtain ⟨c9, H⟩ := H
   replace H := zgo H; obtain ⟨c10, H⟩ := H
   obtain ⟨ad11, B11_7, d11_7, rfl, e11_0, e11_1, e11_2, e11_3, e11_4, e11_5, e11_6, e11_7, e11_8, m11_7, y11_7⟩ := at_T76 gp6 x6 (of_eq_true c9) (of_eq_true c10)
   have e11_0_11 := (HS.keepc e11_0)
   have e11_1_11 := (HS.keepc e11_1)
   have e11_2_11 := (HS.keepc e11_2)
   have e11_3_11 := (HS.keepc e11_3)
   have e11_4_11 := (HS.keepc e11_4)
   have e11_5_11 := (HS.keepc e11_5)
   have e11_6_11 := (HS.keepc e11_6)
   have e11_7_11 := (HS.keepc e11_7)
   have e11_8_11 := (HS.keepc e11_8)
   replace H := zbind H; obtain ⟨t12, ht12, H⟩ := H
   replace H := znifb H; rcases H with ⟨c14, H⟩ | ⟨c14, H⟩
   case inl =>
    obtain rfl := zsome H
    go_wp2_with (first | ((with_reducible refine gd 22 rfl ?_); refine ev_cl HS (spec_ReplyText.calls ht12.out (HS.ro y11_7) m11_7) Tryz.func16 ?_; clear HS; (try clear F); intro wt12 HS F; (try simp only [c14])))
    go_ret
    exact HS.pk
   replace H := zbind H; obtain ⟨t15, ht15, H⟩ := H
   go_upto_if 33 with (first | ((with_reducible refine gd 22 rfl ?_); refine ev_cl HS (spec_ReplyText.calls ht12.out (HS.ro y11_7) m11_7) Tryz.func16 ?_; clear HS; (try clear F); intro wt12 HS F; (try simp only [c14])) | ((with_reducible refine gd 31 rfl ?_); refine gate_guard (by rfl) ?_; refine ev_cl HS (spec_l13In.calls ht15.out (HS.ro gp13) lp13) Tryz.func17 ?_; clear HS; (try clear F); intro wt15 HS F))
   replace H := znifb H; rcases H with ⟨c17, H⟩ | ⟨c17, H⟩
   case inl =>
    subst c17
    (try simp only [dcn, if_true, Bool.false_eq_true, if_false])
    obtain rfl := zsome H
    go_wp2
    go_ret
    exact HS.pk
   subst c17
   (try simp only [dcn, if_true, Bool.false_eq_true, if_false])
   go_wp2
   go_roundg k5
   case measure => have := HKk5.out; omega
   case rel => exact ⟨_, rfl, H, ⟨by have := HKk5.out; omega⟩, HS.pick [0] (by decide) (by rfl)⟩
/-! ### laws_toIntS: function 22 -/
def laws_toIntS.l0 : Nat → (List Int) → Int → (List Int) → Option ((List Int))
  | 0, _, _, _ => none
  | k + 1, l18, x20, a0 => (if x20 < (a0.length : Int) then (if 0 ≤ x20 then (if x20 < (a0.length : Int) then (laws_toIntS.l0 k (l18.set (x20).toNat (rd a0 x20)) (wrap64 (x20 + 1)) a0) else none) else none) else (some l18))
def laws_toIntS.f (k : Nat) (a0 : (List Int)) : Option ((List Int)) := (if 0 ≤ (a0.length : Int) then (if ((a0.length : Int)).toNat ≤ 35184372088832 then (laws_toIntS.l0 k (List.replicate a0.length (0 : Int)) 0 a0) else none) else none)
set_option maxHeartbeats 16000000 in
theorem laws_toIntS.calls {k : Nat} {a0 : (List Int)} {Ap0 : Option Addr} {np0 cp0 : Nat} {r : (List Int)} {w : World} (h : laws_toIntS.f k a0 = some r) (gp0 : (Kd.int .i64).C w Ap0 np0 a0) (lp0 : np0 ≤ cp0) :
    Calls Tryz.prog 22 #[.slice Ap0 np0 cp0] w (fun e w' => ∃ v0_ : Value, e = .returned (v0_) ∧ Hp noFP w w' [.own (Zd.slice 3 (Zd.int .i64)) r [v0_]]) := by
 obtain rfl := C_len gp0
 have HS := Hp.start w
 have H := Aside0.mk h
 clear h
 unfold laws_toIntS.f at H
 go_enter Tryz.func22, Tryz.ntmps22
 replace H := zgo H; obtain ⟨c1, H⟩ := H
 replace H := zgo H; obtain ⟨c2, H⟩ := H
 go_wp2_with (first | ((with_reducible refine gd 7 rfl ?_); refine ev_make rfl (Zd.int .i64) (0 : Int) HS rfl (a0.length : Int) rfl rfl Tryz.underlying33 info3 rfl (by decide) (by decide) (fun _ _ => rfl) (of_eq_true c1) (by have := of_eq_true c2; omega) ?_; clear HS; (try clear F); intro v3 w3 HS; obtain ⟨B3, d3, rfl, m3⟩ := HS.formn a0.length 0 rfl (by first | rfl | simp); (try simp only [hpn, hpm] at HS)))
 go_loopg [4] k (fun kq v_4 w' => ∃ (l18 : List Int) (x20 : Int), v_4 = .int .i64 x20 ∧ Aside0 (laws_toIntS.l0 kq l18 x20 a0 = some r) ∧ Aside0 (kq ≤ k) ∧ Hp noFP w w' [.own (Zd.slice 3 (Zd.int .i64)) l18 [.slice B3 a0.length d3]])
 case atStart => exact ⟨_, _, rfl, H, ⟨Nat.le_refl _⟩, HS⟩
 case round =>
  clear HS H; (try clear F)
  obtain ⟨l18, x20, rfl, H, HKk17, HS⟩ := hrel
  cases gk with
  | zero => exact absurd H.out (by simp [laws_toIntS.l0])
  | succ k17 =>
   simp only [laws_toIntS.l0] at H
   replace H := znif H; rcases H with ⟨c22, H⟩ | ⟨c22, H⟩
   case inl =>
    obtain rfl := zsome H
    go_wp2
    exact bodyPost_ret (results_single rfl (.tmp .nil)) rfl ⟨_, rfl, HS.pick [0] (by decide) (by rfl)⟩
   replace H := zgo H; obtain ⟨c23, H⟩ := H
   replace H := zgo H; obtain ⟨c24, H⟩ := H
   obtain ⟨ad25, rfl, e25_0⟩ := Kd.at_int gp0 x20 (of_eq_true c23) (of_eq_true c24)
   have e25_0_25 := (HS.keepc e25_0)
   obtain ⟨ad26, rfl, e26_0⟩ := Kd.at_int (HS.rd 0 rfl) x20 (of_eq_true c23) (of_eq_true c24)
   go_wp2_with (first | ((with_reducible refine gate_store (p := 20) rfl ?_); refine ev_set rfl (Zd.int .i64) 0 [] x20 (rd a0 x20) HS (seg := [.int .i64 (rd a0 x20)]) rfl (by decide) rfl rfl rfl (by first | rfl | exact (Nat.mul_one _).symm) rfl rfl (by kernel_rfl) (by simp [Value.oneCell']) ⟨of_eq_true c23, of_eq_true c24⟩ rfl (made_flat (fun _ => rfl)) ?_; clear HS; (try clear F); intro w27 HS; (try simp only [hpn, hpm] at HS)))
   go_roundg k17
   case measure => have := HKk17.out; omega
   case rel => exact ⟨_, _, rfl, H, ⟨by have := HKk17.out; omega⟩, HS.pick [0] (by decide) (by rfl)⟩
/-! ### laws_toStringS: function 24 -/
def laws_toStringS.l0 : Nat → (List ByteArray) → Int → (List ByteArray) → Option ((List ByteArray))
  | 0, _, _, _ => none
  | k + 1, l18, x20, a0 => (if x20 < (a0.length : Int) then (if 0 ≤ x20 then (if x20 < (a0.length : Int) then (laws_toStringS.l0 k (l18.set (x20).toNat (rdOf ByteArray.empty a0 x20)) (wrap64 (x20 + 1)) a0) else none) else none) else (some l18))
def laws_toStringS.f (k : Nat) (a0 : (List ByteArray)) : Option ((List ByteArray)) := (if 0 ≤ (a0.length : Int) then (if ((a0.length : Int)).toNat ≤ 17592186044416 then (laws_toStringS.l0 k (List.replicate a0.length (⟨#[]⟩ : ByteArray)) 0 a0) else none) else none)
set_option maxHeartbeats 16000000 in
theorem laws_toStringS.calls {k : Nat} {a0 : (List ByteArray)} {Ap0 : Option Addr} {np0 cp0 : Nat} {r : (List ByteArray)} {w : World} (h : laws_toStringS.f k a0 = some r) (gp0 : Kd.string.C w Ap0 np0 a0) (lp0 : np0 ≤ cp0) :
    Calls Tryz.prog 24 #[.slice Ap0 np0 cp0] w (fun e w' => ∃ v0_ : Value, e = .returned (v0_) ∧ Hp noFP w w' [.own (Zd.slice 9 Zd.string) r [v0_]]) := by
 obtain rfl := C_len gp0
 have HS := Hp.start w
 have H := Aside0.mk h
 clear h
 unfold laws_toStringS.f at H
 go_enter Tryz.func24, Tryz.ntmps24
 replace H := zgo H; obtain ⟨c1, H⟩ := H
 replace H := zgo H; obtain ⟨c2, H⟩ := H
 go_wp2_with (first | ((with_reducible refine gd 7 rfl ?_); refine ev_make rfl Zd.string (⟨#[]⟩ : ByteArray) HS rfl (a0.length : Int) rfl rfl Tryz.underlying38 info9 rfl (by decide) (by decide) (fun _ _ => rfl) (of_eq_true c1) (by have := of_eq_true c2; omega) ?_; clear HS; (try clear F); intro v3 w3 HS; obtain ⟨B3, d3, rfl, m3⟩ := HS.formn a0.length 0 rfl (by first | rfl | simp); (try simp only [hpn, hpm] at HS)))
 go_loopg [4] k (fun kq v_4 w' => ∃ (l18 : List ByteArray) (x20 : Int), v_4 = .int .i64 x20 ∧ Aside0 (laws_toStringS.l0 kq l18 x20 a0 = some r) ∧ Aside0 (kq ≤ k) ∧ Hp noFP w w' [.own (Zd.slice 9 Zd.string) l18 [.slice B3 a0.length d3]])
 case atStart => exact ⟨_, _, rfl, H, ⟨Nat.le_refl _⟩, HS⟩
 case round =>
  clear HS H; (try clear F)
  obtain ⟨l18, x20, rfl, H, HKk17, HS⟩ := hrel
  cases gk with
  | zero => exact absurd H.out (by simp [laws_toStringS.l0])
  | succ k17 =>
   simp only [laws_toStringS.l0] at H
   replace H := znif H; rcases H with ⟨c22, H⟩ | ⟨c22, H⟩
   case inl =>
    obtain rfl := zsome H
    go_wp2
    exact bodyPost_ret (results_single rfl (.tmp .nil)) rfl ⟨_, rfl, HS.pick [0] (by decide) (by rfl)⟩
   replace H := zgo H; obtain ⟨c23, H⟩ := H
   replace H := zgo H; obtain ⟨c24, H⟩ := H
   obtain ⟨ad25, rfl, e25_0⟩ := Kd.at_string gp0 x20 (of_eq_true c23) (of_eq_true c24)
   have e25_0_25 := (HS.keepc e25_0)
   obtain ⟨ad26, rfl, e26_0⟩ := Kd.at_string (HS.rd 0 rfl) x20 (of_eq_true c23) (of_eq_true c24)
   go_wp2_with (first | ((with_reducible refine gate_store (p := 20) rfl ?_); refine ev_set rfl Zd.string 0 [] x20 (rdOf ByteArray.empty a0 x20) HS (seg := [.string (rdOf ByteArray.empty a0 x20)]) rfl (by decide) rfl rfl rfl (by first | rfl | exact (Nat.mul_one _).symm) rfl rfl (by kernel_rfl) (by simp [Value.oneCell']) ⟨of_eq_true c23, of_eq_true c24⟩ rfl (made_flat (fun _ => rfl)) ?_; clear HS; (try clear F); intro w27 HS; (try simp only [hpn, hpm] at HS)))
   go_roundg k17
   case measure => have := HKk17.out; omega
   case rel => exact ⟨_, _, rfl, H, ⟨by have := HKk17.out; omega⟩, HS.pick [0] (by decide) (by rfl)⟩
/-! ### laws_toCert: function 51 -/
def laws_toCert.f (k : Nat) (a0 : S99) : Option (S118) := ((laws_toIntS.f k a0.f9).bind fun t25 => ((laws_toStringS.f k a0.f10).bind fun t30 => ((laws_toStringS.f k a0.f11).bind fun t35 => (some (⟨a0.f0, a0.f1, a0.f2, a0.f3, a0.f4, a0.f5, a0.f6, a0.f7, a0.f8, t25, t30, t35, a0.f12⟩ : S118)))))
set_option maxHeartbeats 16000000 in
theorem laws_toCert.calls {k : Nat} {a0 : S99} {Ap0 : Option Addr} {np0 cp0 : Nat} {Ap1 : Option Addr} {np1 cp1 : Nat} {Ap2 : Option Addr} {np2 cp2 : Nat} {r : S118} {w : World} (h : laws_toCert.f k a0 = some r) (gp0 : (Kd.int .i64).C w Ap0 np0 a0.f9) (lp0 : np0 ≤ cp0) (gp1 : Kd.string.C w Ap1 np1 a0.f10) (lp1 : np1 ≤ cp1) (gp2 : Kd.string.C w Ap2 np2 a0.f11) (lp2 : np2 ≤ cp2) :
    Calls Tryz.prog 51 #[.agg #[.int .i64 a0.f0, .string a0.f1, .string a0.f2, .int .i64 a0.f3, .int .i64 a0.f4, .string a0.f5, .bool a0.f6, .int .i64 a0.f7, .int .i64 a0.f8, .slice Ap0 np0 cp0, .slice Ap1 np1 cp1, .slice Ap2 np2 cp2, .string a0.f12]] w (fun e w' => ∃ v0_ v1_ v2_ : Value, e = .returned (.agg #[.int .i64 r.f0, .string r.f1, .string r.f2, .int .i64 r.f3, .int .i64 r.f4, .string r.f5, .bool r.f6, .int .i64 r.f7, .int .i64 r.f8, v0_, v1_, v2_, .string r.f12]) ∧ Hp noFP w w' [.own (Zd.slice 3 (Zd.int .i64)) r.f9 [v0_], .own (Zd.slice 9 Zd.string) r.f10 [v1_], .own (Zd.slice 9 Zd.string) r.f11 [v2_]]) := by
 obtain rfl := C_len gp0
 obtain rfl := C_len gp1
 obtain rfl := C_len gp2
 have HS := Hp.start w
 have H := Aside0.mk h
 clear h
 unfold laws_toCert.f at H
 go_enter Tryz.func51, Tryz.ntmps51
 replace H := zbind H; obtain ⟨t25, ht25, H⟩ := H
 replace H := zbind H; obtain ⟨t30, ht30, H⟩ := H
 replace H := zbind H; obtain ⟨t35, ht35, H⟩ := H
 obtain rfl := zsome H
 go_wp2_with (first | ((with_reducible refine gd 1 rfl ?_); refine ev_bx HS ?_; clear HS; (try clear F); intro g1 w1 HS F) | ((with_reducible refine gd 2 rfl ?_); refine ev_bx HS ?_; clear HS; (try clear F); intro g2 w2 HS F) | ((with_reducible refine gd 3 rfl ?_); refine ev_bx HS ?_; clear HS; (try clear F); intro g3 w3 HS F) | ((with_reducible refine gate_store (p := 6) rfl ?_); refine ev_st 2 0 HS (seg := [.int .i64 a0.f0]) ?_; clear HS; (try clear F); intro w7 HS F) | ((with_reducible refine gate_store (p := 9) rfl ?_); refine ev_st 2 1 HS (seg := [.string a0.f1]) ?_; clear HS; (try clear F); intro w9 HS F) | ((with_reducible refine gate_store (p := 12) rfl ?_); refine ev_st 2 2 HS (seg := [.string a0.f2]) ?_; clear HS; (try clear F); intro w11 HS F) | ((with_reducible refine gate_store (p := 15) rfl ?_); refine ev_st 2 3 HS (seg := [.int .i64 a0.f3]) ?_; clear HS; (try clear F); intro w13 HS F) | ((with_reducible refine gate_store (p := 18) rfl ?_); refine ev_st 2 4 HS (seg := [.int .i64 a0.f4]) ?_; clear HS; (try clear F); intro w15 HS F) | ((with_reducible refine gate_store (p := 21) rfl ?_); refine ev_st 2 5 HS (seg := [.string a0.f5]) ?_; clear HS; (try clear F); intro w17 HS F) | ((with_reducible refine gate_store (p := 24) rfl ?_); refine ev_st 2 6 HS (seg := [.bool a0.f6]) ?_; clear HS; (try clear F); intro w19 HS F) | ((with_reducible refine gate_store (p := 27) rfl ?_); refine ev_st 2 7 HS (seg := [.int .i64 a0.f7]) ?_; clear HS; (try clear F); intro w21 HS F) | ((with_reducible refine gate_store (p := 30) rfl ?_); refine ev_st 2 8 HS (seg := [.int .i64 a0.f8]) ?_; clear HS; (try clear F); intro w23 HS F) | ((with_reducible refine gd 33 rfl ?_); refine ev_cl1 HS (laws_toIntS.calls ht25.out (HS.ro gp0) lp0) Tryz.func22 ?_; clear HS; (try clear F); intro v26 wt25 HS F; obtain ⟨B26, d26, rfl, m26⟩ := HS.form 3 rfl) | ((with_reducible refine gate_store (p := 34) rfl ?_); refine ev_st 2 9 HS (seg := [.slice B26 t25.length d26]) ?_; clear HS; (try clear F); intro w28 HS F) | ((with_reducible refine gd 37 rfl ?_); refine ev_cl1 HS (laws_toStringS.calls ht30.out (HS.ro gp1) lp1) Tryz.func24 ?_; clear HS; (try clear F); intro v31 wt30 HS F; obtain ⟨B31, d31, rfl, m31⟩ := HS.form 4 rfl) | ((with_reducible refine gate_store (p := 38) rfl ?_); refine ev_st 2 10 HS (seg := [.slice B31 t30.length d31]) ?_; clear HS; (try clear F); intro w33 HS F) | ((with_reducible refine gd 41 rfl ?_); refine ev_cl1 HS (laws_toStringS.calls ht35.out (HS.ro gp2) lp2) Tryz.func24 ?_; clear HS; (try clear F); intro v36 wt35 HS F; obtain ⟨B36, d36, rfl, m36⟩ := HS.form 5 rfl) | ((with_reducible refine gate_store (p := 42) rfl ?_); refine ev_st 2 11 HS (seg := [.slice B36 t35.length d36]) ?_; clear HS; (try clear F); intro w38 HS F) | ((with_reducible refine gate_store (p := 45) rfl ?_); refine ev_st 2 12 HS (seg := [.string a0.f12]) ?_; clear HS; (try clear F); intro w40 HS F) | ((with_reducible refine gate_store (p := 2) rfl ?_); refine ev_st 1 0 HS (seg := [.int .i64 a0.f0, .string a0.f1, .string a0.f2, .int .i64 a0.f3, .int .i64 a0.f4, .string a0.f5, .bool a0.f6, .int .i64 a0.f7, .int .i64 a0.f8, .slice B26 t25.length d26, .slice B31 t30.length d31, .slice B36 t35.length d36, .string a0.f12]) ?_; clear HS; (try clear F); intro w42 HS F))
 exact bodyPost_ret (results_single rfl (.cell _ _ _ _ _ rfl (HS.boxAt (i := 1) rfl) Tryz.underlying118 rfl (by kernel_rfl) .nil)) rfl ⟨_, _, _, rfl, HS.pick [3, 4, 5] (by decide) (by rfl)⟩
/-! ### laws_toCertS: function 20 -/
def laws_toCertS.l0 : Nat → (List S118) → Int → (List S99) → Option ((List S118))
  | 0, _, _, _ => none
  | k + 1, l23, x25, a0 => (if x25 < (a0.length : Int) then (if 0 ≤ x25 then (if x25 < (a0.length : Int) then ((laws_toCert.f k (rd_T99 a0 x25)).bind fun t31 => (laws_toCertS.l0 k (l23.set (x25).toNat t31) (wrap64 (x25 + 1)) a0)) else none) else none) else (some l23))
def laws_toCertS.f (k : Nat) (a0 : (List S99)) : Option ((List S118)) := (if 0 ≤ (a0.length : Int) then (if ((a0.length : Int)).toNat ≤ 1529755308210 then (laws_toCertS.l0 k (List.replicate a0.length z118) 0 a0) else none) else none)
set_option maxHeartbeats 16000000 in
theorem laws_toCertS.calls {k : Nat} {a0 : (List S99)} {Ap0 : Option Addr} {np0 cp0 : Nat} {r : (List S118)} {w : World} (h : laws_toCertS.f k a0 = some r) (gp0 : k99.C w Ap0 np0 a0) (lp0 : np0 ≤ cp0) :
    Calls Tryz.prog 20 #[.slice Ap0 np0 cp0] w (fun e w' => ∃ v0_ : Value, e = .returned (v0_) ∧ Hp noFP w w' [.own (Zd.slice 118 q118) r [v0_]]) := by
 obtain rfl := C_len gp0
 have HS := Hp.start w
 have H := Aside0.mk h
 clear h
 unfold laws_toCertS.f at H
 go_enter Tryz.func20, Tryz.ntmps20
 replace H := zgo H; obtain ⟨c1, H⟩ := H
 replace H := zgo H; obtain ⟨c2, H⟩ := H
 go_wp2_with (first | ((with_reducible refine gd 7 rfl ?_); refine ev_make rfl q118 z118 HS rfl (a0.length : Int) rfl rfl Tryz.underlying43 info118 rfl (by decide) (by decide) q118_zero (of_eq_true c1) (by have := of_eq_true c2; omega) ?_; clear HS; (try clear F); intro v3 w3 HS; obtain ⟨B3, d3, rfl, m3⟩ := HS.formn a0.length 0 rfl (by first | rfl | simp); (try simp only [hpn, hpm] at HS)))
 go_loopg [4] k (fun kq v_4 w' => ∃ (l23 : List S118) (x25 : Int), v_4 = .int .i64 x25 ∧ Aside0 (laws_toCertS.l0 kq l23 x25 a0 = some r) ∧ Aside0 (kq ≤ k) ∧ Hp noFP w w' [.own (Zd.slice 118 q118) l23 [.slice B3 a0.length d3]])
 case atStart => exact ⟨_, _, rfl, H, ⟨Nat.le_refl _⟩, HS⟩
 case round =>
  clear HS H; (try clear F)
  obtain ⟨l23, x25, rfl, H, HKk22, HS⟩ := hrel
  cases gk with
  | zero => exact absurd H.out (by simp [laws_toCertS.l0])
  | succ k22 =>
   simp only [laws_toCertS.l0] at H
   replace H := znif H; rcases H with ⟨c27, H⟩ | ⟨c27, H⟩
   case inl =>
    obtain rfl := zsome H
    go_wp2
    exact bodyPost_ret (results_single rfl (.tmp .nil)) rfl ⟨_, rfl, HS.pick [0] (by decide) (by rfl)⟩
   replace H := zgo H; obtain ⟨c28, H⟩ := H
   replace H := zgo H; obtain ⟨c29, H⟩ := H
   obtain ⟨ad30, B30_9, d30_9, B30_10, d30_10, B30_11, d30_11, rfl, e30_0, e30_1, e30_2, e30_3, e30_4, e30_5, e30_6, e30_7, e30_8, e30_9, e30_10, e30_11, e30_12, m30_9, y30_9, m30_10, y30_10, m30_11, y30_11⟩ := at_T99 gp0 x25 (of_eq_true c28) (of_eq_true c29)
   have e30_0_30 := (HS.keepc e30_0)
   have e30_1_30 := (HS.keepc e30_1)
   have e30_2_30 := (HS.keepc e30_2)
   have e30_3_30 := (HS.keepc e30_3)
   have e30_4_30 := (HS.keepc e30_4)
   have e30_5_30 := (HS.keepc e30_5)
   have e30_6_30 := (HS.keepc e30_6)
   have e30_7_30 := (HS.keepc e30_7)
   have e30_8_30 := (HS.keepc e30_8)
   have e30_9_30 := (HS.keepc e30_9)
   have e30_10_30 := (HS.keepc e30_10)
   have e30_11_30 := (HS.keepc e30_11)
   have e30_12_30 := (HS.keepc e30_12)
   replace H := zbind H; obtain ⟨t31, ht31, H⟩ := H
   go_wp2_with (first | ((with_reducible refine gd 20 rfl ?_); refine ev_cl3 HS (laws_toCert.calls ht31.out (HS.ro y30_9) m30_9 (HS.ro y30_10) m30_10 (HS.ro y30_11) m30_11) Tryz.func51 ?_; clear HS; (try clear F); intro v32 v33 v34 wt31 HS F; obtain ⟨B32, d32, rfl, m32⟩ := HS.form 1 rfl; obtain ⟨B33, d33, rfl, m33⟩ := HS.form 2 rfl; obtain ⟨B34, d34, rfl, m34⟩ := HS.form 3 rfl; obtain ⟨ad36, B36_9, d36_9, B36_10, d36_10, B36_11, d36_11, rfl, e36_0, e36_1, e36_2, e36_3, e36_4, e36_5, e36_6, e36_7, e36_8, e36_9, e36_10, e36_11, e36_12, m36_9, y36_9, m36_10, y36_10, m36_11, y36_11⟩ := at_T118 (HS.rd 0 rfl) x25 (of_eq_true c28) (of_eq_true c29)) | ((with_reducible refine gate_store (p := 21) rfl ?_); refine ev_set rfl q118 0 [1, 2, 3] x25 t31 HS (seg := [.int .i64 t31.f0, .string t31.f1, .string t31.f2, .int .i64 t31.f3, .int .i64 t31.f4, .string t31.f5, .bool t31.f6, .int .i64 t31.f7, .int .i64 t31.f8, .slice B32 t31.f9.length d32, .slice B33 t31.f10.length d33, .slice B34 t31.f11.length d34, .string t31.f12]) rfl (by decide) rfl rfl rfl (by first | rfl | exact (Nat.mul_one _).symm) rfl rfl (by kernel_rfl) (by simp [Value.oneCell']) ⟨of_eq_true c28, of_eq_true c29⟩ rfl (fun S hd hh => q118_pack (x := t31) hd (hh 1 (.own (Zd.slice 3 (Zd.int .i64)) t31.f9 [.slice B32 t31.f9.length d32]) rfl) (hh 2 (.own (Zd.slice 9 Zd.string) t31.f10 [.slice B33 t31.f10.length d33]) rfl) (hh 3 (.own (Zd.slice 9 Zd.string) t31.f11 [.slice B34 t31.f11.length d34]) rfl) (by decide)) ?_; clear HS; (try clear F); intro w37 HS; (try simp only [hpn, hpm] at HS)))
   go_roundg k22
   case measure => have := HKk22.out; omega
   case rel => exact ⟨_, _, rfl, H, ⟨by have := HKk22.out; omega⟩, HS.pick [0] (by decide) (by rfl)⟩
/-! ### laws_toRev: function 132 -/
def laws_toRev.f (a0 : S224) : Option (S222) := (some (⟨a0.f0, a0.f1⟩ : S222))
set_option maxHeartbeats 16000000 in
theorem laws_toRev.calls {a0 : S224} {r : S222} {w : World} (h : laws_toRev.f a0 = some r) :
    Calls Tryz.prog 132 #[.agg #[.int .i64 a0.f0, .int .i64 a0.f1]] w (fun e w' => e = .returned (.agg #[.int .i64 r.f0, .int .i64 r.f1]) ∧ Hp noFP w w' []) := by
 have HS := Hp.start w
 have H := Aside0.mk h
 clear h
 unfold laws_toRev.f at H
 go_enter Tryz.func132, Tryz.ntmps132
 obtain rfl := zsome H
 go_wp2_with (first | ((with_reducible refine gd 1 rfl ?_); refine ev_bx HS ?_; clear HS; (try clear F); intro g1 w1 HS F) | ((with_reducible refine gd 2 rfl ?_); refine ev_bx HS ?_; clear HS; (try clear F); intro g2 w2 HS F) | ((with_reducible refine gd 3 rfl ?_); refine ev_bx HS ?_; clear HS; (try clear F); intro g3 w3 HS F) | ((with_reducible refine gate_store (p := 6) rfl ?_); refine ev_st 2 0 HS (seg := [.int .i64 a0.f0]) ?_; clear HS; (try clear F); intro w7 HS F) | ((with_reducible refine gate_store (p := 9) rfl ?_); refine ev_st 2 1 HS (seg := [.int .i64 a0.f1]) ?_; clear HS; (try clear F); intro w9 HS F) | ((with_reducible refine gate_store (p := 2) rfl ?_); refine ev_st 1 0 HS (seg := [.int .i64 a0.f0, .int .i64 a0.f1]) ?_; clear HS; (try clear F); intro w11 HS F))
 exact bodyPost_ret (results_single rfl (.cell _ _ _ _ _ rfl (HS.boxAt (i := 1) rfl) Tryz.underlying222 rfl (by kernel_rfl) .nil)) rfl ⟨rfl, HS.pick [] (by decide) (by rfl)⟩
/-! ### laws_toRevS: function 124 -/
def laws_toRevS.l0 : Nat → (List S222) → Int → (List S224) → Option ((List S222))
  | 0, _, _, _ => none
  | k + 1, l20, x22, a0 => (if x22 < (a0.length : Int) then (if 0 ≤ x22 then (if x22 < (a0.length : Int) then ((laws_toRev.f (rd_T224 a0 x22)).bind fun t28 => (laws_toRevS.l0 k (l20.set (x22).toNat t28) (wrap64 (x22 + 1)) a0)) else none) else none) else (some l20))
def laws_toRevS.f (k : Nat) (a0 : (List S224)) : Option ((List S222)) := (if 0 ≤ (a0.length : Int) then (if ((a0.length : Int)).toNat ≤ 17592186044416 then (laws_toRevS.l0 k (List.replicate a0.length z222) 0 a0) else none) else none)
set_option maxHeartbeats 16000000 in
theorem laws_toRevS.calls {k : Nat} {a0 : (List S224)} {Ap0 : Option Addr} {np0 cp0 : Nat} {r : (List S222)} {w : World} (h : laws_toRevS.f k a0 = some r) (gp0 : k224.C w Ap0 np0 a0) (lp0 : np0 ≤ cp0) :
    Calls Tryz.prog 124 #[.slice Ap0 np0 cp0] w (fun e w' => ∃ v0_ : Value, e = .returned (v0_) ∧ Hp noFP w w' [.own (Zd.slice 222 q222) r [v0_]]) := by
 obtain rfl := C_len gp0
 have HS := Hp.start w
 have H := Aside0.mk h
 clear h
 unfold laws_toRevS.f at H
 go_enter Tryz.func124, Tryz.ntmps124
 replace H := zgo H; obtain ⟨c1, H⟩ := H
 replace H := zgo H; obtain ⟨c2, H⟩ := H
 go_wp2_with (first | ((with_reducible refine gd 7 rfl ?_); refine ev_make rfl q222 z222 HS rfl (a0.length : Int) rfl rfl Tryz.underlying196 info222 rfl (by decide) (by decide) q222_zero (of_eq_true c1) (by have := of_eq_true c2; omega) ?_; clear HS; (try clear F); intro v3 w3 HS; obtain ⟨B3, d3, rfl, m3⟩ := HS.formn a0.length 0 rfl (by first | rfl | simp); (try simp only [hpn, hpm] at HS)))
 go_loopg [4] k (fun kq v_4 w' => ∃ (l20 : List S222) (x22 : Int), v_4 = .int .i64 x22 ∧ Aside0 (laws_toRevS.l0 kq l20 x22 a0 = some r) ∧ Aside0 (kq ≤ k) ∧ Hp noFP w w' [.own (Zd.slice 222 q222) l20 [.slice B3 a0.length d3]])
 case atStart => exact ⟨_, _, rfl, H, ⟨Nat.le_refl _⟩, HS⟩
 case round =>
  clear HS H; (try clear F)
  obtain ⟨l20, x22, rfl, H, HKk19, HS⟩ := hrel
  cases gk with
  | zero => exact absurd H.out (by simp [laws_toRevS.l0])
  | succ k19 =>
   simp only [laws_toRevS.l0] at H
   replace H := znif H; rcases H with ⟨c24, H⟩ | ⟨c24, H⟩
   case inl =>
    obtain rfl := zsome H
    go_wp2
    exact bodyPost_ret (results_single rfl (.tmp .nil)) rfl ⟨_, rfl, HS.pick [0] (by decide) (by rfl)⟩
   replace H := zgo H; obtain ⟨c25, H⟩ := H
   replace H := zgo H; obtain ⟨c26, H⟩ := H
   obtain ⟨ad27, rfl, e27_0, e27_1⟩ := at_T224 gp0 x22 (of_eq_true c25) (of_eq_true c26)
   have e27_0_27 := (HS.keepc e27_0)
   have e27_1_27 := (HS.keepc e27_1)
   replace H := zbind H; obtain ⟨t28, ht28, H⟩ := H
   go_wp2_with (first | ((with_reducible refine gd 20 rfl ?_); refine ev_cl HS (laws_toRev.calls ht28.out) Tryz.func132 ?_; clear HS; (try clear F); intro wt28 HS F; obtain ⟨ad30, rfl, e30_0, e30_1⟩ := at_T222 (HS.rd 0 rfl) x22 (of_eq_true c25) (of_eq_true c26)) | ((with_reducible refine gate_store (p := 21) rfl ?_); refine ev_set rfl q222 0 [] x22 t28 HS (seg := [.int .i64 t28.f0, .int .i64 t28.f1]) rfl (by decide) rfl rfl rfl (by first | rfl | exact (Nat.mul_one _).symm) rfl rfl (by kernel_rfl) (by simp [Value.oneCell']) ⟨of_eq_true c25, of_eq_true c26⟩ rfl (made_flat (fun _ => q222_flat _ _ _)) ?_; clear HS; (try clear F); intro w31 HS; (try simp only [hpn, hpm] at HS)))
   go_roundg k19
   case measure => have := HKk19.out; omega
   case rel => exact ⟨_, _, rfl, H, ⟨by have := HKk19.out; omega⟩, HS.pick [0] (by decide) (by rfl)⟩
/-! ### laws_toCrl: function 109 -/
def laws_toCrl.f (k : Nat) (a0 : S187) : Option (S198) := ((laws_toRevS.f k a0.f5).bind fun t17 => (some (⟨a0.f0, a0.f1, a0.f2, a0.f3, a0.f4, t17, a0.f6⟩ : S198)))
set_option maxHeartbeats 16000000 in
theorem laws_toCrl.calls {k : Nat} {a0 : S187} {Ap0 : Option Addr} {np0 cp0 : Nat} {r : S198} {w : World} (h : laws_toCrl.f k a0 = some r) (gp0 : k224.C w Ap0 np0 a0.f5) (lp0 : np0 ≤ cp0) :
    Calls Tryz.prog 109 #[.agg #[.string a0.f0, .int .i64 a0.f1, .int .i64 a0.f2, .int .i64 a0.f3, .int .i64 a0.f4, .slice Ap0 np0 cp0, .string a0.f6]] w (fun e w' => ∃ v0_ : Value, e = .returned (.agg #[.string r.f0, .int .i64 r.f1, .int .i64 r.f2, .int .i64 r.f3, .int .i64 r.f4, v0_, .string r.f6]) ∧ Hp noFP w w' [.own (Zd.slice 222 q222) r.f5 [v0_]]) := by
 obtain rfl := C_len gp0
 have HS := Hp.start w
 have H := Aside0.mk h
 clear h
 unfold laws_toCrl.f at H
 go_enter Tryz.func109, Tryz.ntmps109
 replace H := zbind H; obtain ⟨t17, ht17, H⟩ := H
 obtain rfl := zsome H
 go_wp2_with (first | ((with_reducible refine gd 1 rfl ?_); refine ev_bx HS ?_; clear HS; (try clear F); intro g1 w1 HS F) | ((with_reducible refine gd 2 rfl ?_); refine ev_bx HS ?_; clear HS; (try clear F); intro g2 w2 HS F) | ((with_reducible refine gd 3 rfl ?_); refine ev_bx HS ?_; clear HS; (try clear F); intro g3 w3 HS F) | ((with_reducible refine gate_store (p := 6) rfl ?_); refine ev_st 2 0 HS (seg := [.string a0.f0]) ?_; clear HS; (try clear F); intro w7 HS F) | ((with_reducible refine gate_store (p := 9) rfl ?_); refine ev_st 2 1 HS (seg := [.int .i64 a0.f1]) ?_; clear HS; (try clear F); intro w9 HS F) | ((with_reducible refine gate_store (p := 12) rfl ?_); refine ev_st 2 2 HS (seg := [.int .i64 a0.f2]) ?_; clear HS; (try clear F); intro w11 HS F) | ((with_reducible refine gate_store (p := 15) rfl ?_); refine ev_st 2 3 HS (seg := [.int .i64 a0.f3]) ?_; clear HS; (try clear F); intro w13 HS F) | ((with_reducible refine gate_store (p := 18) rfl ?_); refine ev_st 2 4 HS (seg := [.int .i64 a0.f4]) ?_; clear HS; (try clear F); intro w15 HS F) | ((with_reducible refine gd 21 rfl ?_); refine ev_cl1 HS (laws_toRevS.calls ht17.out (HS.ro gp0) lp0) Tryz.func124 ?_; clear HS; (try clear F); intro v18 wt17 HS F; obtain ⟨B18, d18, rfl, m18⟩ := HS.form 3 rfl) | ((with_reducible refine gate_store (p := 22) rfl ?_); refine ev_st 2 5 HS (seg := [.slice B18 t17.length d18]) ?_; clear HS; (try clear F); intro w20 HS F) | ((with_reducible refine gate_store (p := 25) rfl ?_); refine ev_st 2 6 HS (seg := [.string a0.f6]) ?_; clear HS; (try clear F); intro w22 HS F) | ((with_reducible refine gate_store (p := 2) rfl ?_); refine ev_st 1 0 HS (seg := [.string a0.f0, .int .i64 a0.f1, .int .i64 a0.f2, .int .i64 a0.f3, .int .i64 a0.f4, .slice B18 t17.length d18, .string a0.f6]) ?_; clear HS; (try clear F); intro w24 HS F))
 exact bodyPost_ret (results_single rfl (.cell _ _ _ _ _ rfl (HS.boxAt (i := 1) rfl) Tryz.underlying198 rfl (by kernel_rfl) .nil)) rfl ⟨_, rfl, HS.pick [3] (by decide) (by rfl)⟩
end Go.Proofs.YtfiifjlapaefaaaGreat.F
