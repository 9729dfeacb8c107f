/- Functions of the program and of the law, and that their calls do what is written here. -/
import Derived.Test.YtfcpjeeeddjakaaGreatZgFnAsksd
import Derived.Test.YtfcpjeeeddjakaaGreatZgFnAskse
import Derived.Test.YtfcpjeeeddjakaaGreatZgFnAsksf
namespace Go.Proofs.YtfcpjeeeddjakaaGreat.F
open Go.RowKit YtfcpjeeeddjakaaGreatW.PrintWords YtfcpjeeeddjakaaGreatW.PrintLast YtfcpjeeeddjakaaGreatW.PrintMore Z
attribute [local go_sem] max2_int min2_int max_two min_two max_three min_three max_four min_four
set_option linter.unusedVariables false
set_option linter.unusedSimpArgs false
set_option maxRecDepth 100000
set_option maxHeartbeats 16000000
def impl_ReadAsk.f (k : Nat) (a0 : ByteArray) : Option (S26 × Bool) := ((impl_ReadItem.f k a0).bind fun t3 => (if t3.2 = true then ((impl_opener_list_0.f (⟨false⟩ : S77) t3.1 6).bind fun t15 => (lets (cond t15.1.1 t3.1.f2 (List.replicate t15.1.2 z66)) fun y18 => (if 0 < (y18.length : Int) then ((impl_opener_texts_0.f k t15.2 (rd_T66 y18 0) 4).bind fun t14 => (if 1 < (y18.length : Int) then ((impl_opener_num_0.f k t14.2 (rd_T66 y18 1)).bind fun t25 => (if 2 < (y18.length : Int) then ((impl_opener_num_0.f k t25.2 (rd_T66 y18 2)).bind fun t38 => (if 3 < (y18.length : Int) then ((impl_opener_num_0.f k t38.2 (rd_T66 y18 3)).bind fun t48 => (if 4 < (y18.length : Int) then ((impl_opener_num_0.f k t48.2 (rd_T66 y18 4)).bind fun t53 => (if 5 < (y18.length : Int) then ((impl_opener_flag_0.f t53.2 (rd_T66 y18 5)).bind fun t56 => ((impl_AskText.f k (⟨t14.1, t25.1, t38.1, t48.1, t53.1, t56.1⟩ : S26)).bind fun t24 => (if t56.2.f0 = true then (some ((⟨([] : List ByteArray), 0, 0, 0, 0, false⟩ : S26), false)) else (if t24.2 = true then (if t24.1.toList = a0.toList then (some ((⟨t14.1, t25.1, t38.1, t48.1, t53.1, t56.1⟩ : S26), true)) else (some ((⟨([] : List ByteArray), 0, 0, 0, 0, false⟩ : S26), false))) else (some ((⟨([] : List ByteArray), 0, 0, 0, 0, false⟩ : S26), false)))))) else none)) else none)) else none)) else none)) else none)) else none))) else (some ((⟨([] : List ByteArray), 0, 0, 0, 0, false⟩ : S26), false))))
def impl_ReadAsk.T6 : TT := (true, [([], []), ([], []), ([1], [1]), ([2], [2]), ([0, 3], [0, 3]), ([], []), ([], []), ([6], [6]), ([7], [7]), ([5, 8, 4], [5, 8]), ([], []), ([], []), ([11], [11]), ([12], [12]), ([10, 13, 9], [10, 13]), ([], []), ([], []), ([16], [16]), ([17], [17]), ([15, 18, 14], [15, 18]), ([], []), ([], []), ([21], [21]), ([22], [22]), ([20, 23, 19], [20, 23]), ([], []), ([], []), ([26], [26]), ([27], [27]), ([25, 28, 24], [25, 28]), ([4, 9, 14, 19, 24, 29], [4, 9, 14, 19, 24, 29]), ([], []), ([31, 30, 29, 0, 1, 2, 3, 4, 5, 6, 7, 8, 9, 10, 11, 12, 13, 14, 15, 16, 17, 18, 19, 20, 21, 22, 23, 24, 25, 26, 27, 28, 29, 30, 31], [30, 31])])
theorem impl_ReadAsk.tT6 : rtab .any (opsOf Tryz.f9 6) = impl_ReadAsk.T6 := by kernel_rfl
theorem impl_ReadAsk.calls {k : Nat} {a0 : ByteArray} {r1 : S26} {r2 : Bool} {w : World} (h : impl_ReadAsk.f k a0 = some (r1, r2)) :
    Calls Tryz.prog 9 #[.string a0] w (fun e w' => ∃ v0_ : Value, e = .returned (.tuple #[.agg #[v0_, .int .i64 r1.f1, .int .i64 r1.f2, .int .i64 r1.f3, .int .i64 r1.f4, .bool r1.f5], .bool r2]) ∧ Hp noFP w w' [.own (Zd.slice 9 Zd.string) r1.f0 [v0_]]) := by
 have HS := Hp.start w
 have H := Aside0.mk h
 clear h
 unfold impl_ReadAsk.f at H
 go_enter Tryz.func9, Tryz.ntmps9
 replace H := zbind H; obtain ⟨t3, ht3, H⟩ := H
 go_upto_if 17 with (first | ((with_reducible refine gd 2 rfl ?_); refine ev_bx HS ?_; clear HS; intro g2 w2 HS F) | ((with_reducible refine gd 13 rfl ?_); refine ev_cl1 HS (impl_ReadItem.calls ht3.out) Tryz.func40 ?_; clear HS; intro v4 wt3 HS F; obtain ⟨B4, d4, rfl, m4⟩ := HS.form 1 rfl; refine HS.lend [0] (by decide) [.box g2 [.slice none 0 0, .int .i64 0, .int .i64 0, .int .i64 0, .int .i64 0, .bool false] 26] rfl (fun A6 HL HD HA HB6 => ?_); have gb6_0 := hide_rd HD 1 rfl (by decide); replace HS := HA; have hV := hide_view A6 wt3; clear HA HD HL; (try clear F); replace HS : Hp A6 wt3 _ [.box g2 [.slice none 0 0, .int .i64 0, .int .i64 0, .int .i64 0, .int .i64 0, .bool false] 26] := HS; have F := HS.boxes; simp only [bxn] at F) | ((with_reducible refine gd 4 rfl ?_); refine ev_bx HS ?_; clear HS; intro g4 w4 HS F) | ((with_reducible refine gate_store (p := 4) rfl ?_); refine ev_st 1 0 HS (seg := [.int .i64 t3.1.f0, .string t3.1.f1, .slice B4 t3.1.f2.length d4]) ?_; clear HS; intro w10 HS F))
 replace H := znifb H; rcases H with ⟨c12, H⟩ | ⟨c12, H⟩
 case inl =>
  (try simp only [c12, dcn])
  obtain ⟨rfl, rfl⟩ := zsome2 H
  go_wp2_with ((with_reducible refine gate_store (p := 2) rfl ?_); refine ev_st 0 0 HS (seg := [.slice none 0 0, .int .i64 0, .int .i64 0, .int .i64 0, .int .i64 0, .bool false]) ?_; clear HS; intro w37 HS F)
  have HS := HB6 _ _ HS (Nat.le_of_ble_eq_true rfl)
  replace HS := HS.nil 9 Zd.string
  exact bodyPost_ret (results_list (rs := [.cell 2 26, .tmp 3]) rfl (by simp) (.cell _ _ _ _ _ rfl (HS.boxAt (i := 0) rfl) Tryz.underlying26 rfl (by kernel_rfl) (.tmp .nil))) rfl ⟨_, rfl, HS.pick [3] (by decide) (by rfl)⟩
 (try simp only [c12, dcn])
 replace H := zbind H; obtain ⟨t15, ht15, H⟩ := H
 replace H := zlets H; obtain ⟨y18, e_y18, H⟩ := H
 go_wp2_with (first | ((with_reducible refine gd 20 rfl ?_); refine ev_bx HS ?_; clear HS; intro g20 w20 HS F) | ((with_reducible refine gd 23 rfl ?_); refine HS.lend [2] (by decide) [.box g20 [.bool false] 77] rfl (fun A' HL HD HA HB => ?_); refine ev_call rfl Tryz.func41 (by kernel_rfl) rfl #[.pointer (some ⟨g20, 0, none⟩), .agg #[.int .i64 t3.1.f0, .string t3.1.f1, .slice B4 t3.1.f2.length d4], .int .i64 6] rfl (by simp only [mpn]; rfl) ?_; refine (impl_opener_list_0.calls ht15.out gb6_0 m4 (hV.lend HS HL) HA).mono ?_; rintro _ wt15 ⟨v16, rfl, HQ⟩; refine ⟨_, rfl, ?_⟩; replace HS := HB _ _ HQ (Nat.le_of_ble_eq_true rfl); clear HQ HA HB HL HD; (try simp only [hpn, hpm] at HS); (try clear F); obtain ⟨B16, d16, rfl, m16⟩ := HS.formn t15.1.2 3 rfl (by first | rfl | simp); refine HS.lend [0, 2] (by decide) [.box g2 [.slice none 0 0, .int .i64 0, .int .i64 0, .int .i64 0, .int .i64 0, .bool false] 26, .box g20 [.bool t15.2.f0] 77] rfl (fun A19 HL HD HA HB19 => ?_); have gb19_0 := hV.hideC km66 HS HL gb6_0; have zg4_b19_0 := hide_box HD 1 rfl (by decide) (j := 0) rfl; have zg4_b19_1 := hide_box HD 1 rfl (by decide) (j := 1) rfl; have zg4_b19_2 := hide_box HD 1 rfl (by decide) (j := 2) rfl; have gb19_1 := hide_rd HD 3 rfl (by decide); replace HS := HA; replace hV := hide_view A19 wt15; clear HA HD HL; (try clear F); replace HS : Hp A19 wt15 _ [.box g2 [.slice none 0 0, .int .i64 0, .int .i64 0, .int .i64 0, .int .i64 0, .bool false] 26, .box g20 [.bool t15.2.f0] 77] := HS; have F := HS.boxes; simp only [bxn] at F; obtain ⟨B18, d18, ej18, m18, gj18⟩ := join_row e_y18.out gb19_0 m4 gb19_1 m16; rw [ej18]; (try simp only [hpn, hpm] at HS); have F := HS.boxes; simp only [bxn] at F))
 replace H := zgo H; obtain ⟨c11, H⟩ := H
 have c11n : (0 < y18.length) = True := eq_true (by have := of_eq_true c11; omega)
 obtain ⟨ad13, B13_2, d13_2, rfl, e13_0, e13_1, e13_2, m13_2, y13_2⟩ := at_T66 gj18 0 (of_eq_true (eq_true (by decide))) (of_eq_true c11); (try (have e13_0' := e13_0; simp only [Int.toNat_zero, Int.reduceToNat, Int.toNat_natCast, Nat.zero_mul, Nat.one_mul, Nat.zero_add, Nat.add_zero, Addr.add_zero', Addr.add_succ', Nat.reduceMul, Nat.reduceAdd] at e13_0')); (try (have e13_1' := e13_1; simp only [Int.toNat_zero, Int.reduceToNat, Int.toNat_natCast, Nat.zero_mul, Nat.one_mul, Nat.zero_add, Nat.add_zero, Addr.add_zero', Addr.add_succ', Nat.reduceMul, Nat.reduceAdd] at e13_1')); (try (have e13_2' := e13_2; simp only [Int.toNat_zero, Int.reduceToNat, Int.toNat_natCast, Nat.zero_mul, Nat.one_mul, Nat.zero_add, Nat.add_zero, Addr.add_zero', Addr.add_succ', Nat.reduceMul, Nat.reduceAdd] at e13_2'))
 replace H := zbind H; obtain ⟨t14, ht14, H⟩ := H
 replace H := zgo H; obtain ⟨c21, H⟩ := H
 have c21n : (1 < y18.length) = True := eq_true (by have := of_eq_true c21; omega)
 obtain ⟨ad23, B23_2, d23_2, hq23, e23_0, e23_1, e23_2, m23_2, y23_2⟩ := at_T66 gj18 1 (of_eq_true (eq_true (by decide))) (of_eq_true c21); obtain rfl := Option.some.inj hq23; (try (have e23_0' := e23_0; simp only [Int.toNat_zero, Int.reduceToNat, Int.toNat_natCast, Nat.zero_mul, Nat.one_mul, Nat.zero_add, Nat.add_zero, Addr.add_zero', Addr.add_succ', Nat.reduceMul, Nat.reduceAdd] at e23_0')); (try (have e23_1' := e23_1; simp only [Int.toNat_zero, Int.reduceToNat, Int.toNat_natCast, Nat.zero_mul, Nat.one_mul, Nat.zero_add, Nat.add_zero, Addr.add_zero', Addr.add_succ', Nat.reduceMul, Nat.reduceAdd] at e23_1')); (try (have e23_2' := e23_2; simp only [Int.toNat_zero, Int.reduceToNat, Int.toNat_natCast, Nat.zero_mul, Nat.one_mul, Nat.zero_add, Nat.add_zero, Addr.add_zero', Addr.add_succ', Nat.reduceMul, Nat.reduceAdd] at e23_2'))
 replace H := zbind H; obtain ⟨t25, ht25, H⟩ := H
 replace H := zgo H; obtain ⟨c28, H⟩ := H
 have c28n : (2 < y18.length) = True := eq_true (by have := of_eq_true c28; omega)
 obtain ⟨ad34, B34_2, d34_2, hq34, e34_0, e34_1, e34_2, m34_2, y34_2⟩ := at_T66 gj18 2 (of_eq_true (eq_true (by decide))) (of_eq_true c28); obtain rfl := Option.some.inj hq34; (try (have e34_0' := e34_0; simp only [Int.toNat_zero, Int.reduceToNat, Int.toNat_natCast, Nat.zero_mul, Nat.one_mul, Nat.zero_add, Nat.add_zero, Addr.add_zero', Addr.add_succ', Nat.reduceMul, Nat.reduceAdd] at e34_0')); (try (have e34_1' := e34_1; simp only [Int.toNat_zero, Int.reduceToNat, Int.toNat_natCast, Nat.zero_mul, Nat.one_mul, Nat.zero_add, Nat.add_zero, Addr.add_zero', Addr.add_succ', Nat.reduceMul, Nat.reduceAdd] at e34_1')); (try (have e34_2' := e34_2; simp only [Int.toNat_zero, Int.reduceToNat, Int.toNat_natCast, Nat.zero_mul, Nat.one_mul, Nat.zero_add, Nat.add_zero, Addr.add_zero', Addr.add_succ', Nat.reduceMul, Nat.reduceAdd] at e34_2'))
 replace H := zbind H; obtain ⟨t38, ht38, H⟩ := H
 replace H := zgo H; obtain ⟨c39, H⟩ := H
 have c39n : (3 < y18.length) = True := eq_true (by have := of_eq_true c39; omega)
 obtain ⟨ad45, B45_2, d45_2, hq45, e45_0, e45_1, e45_2, m45_2, y45_2⟩ := at_T66 gj18 3 (of_eq_true (eq_true (by decide))) (of_eq_true c39); obtain rfl := Option.some.inj hq45; (try (have e45_0' := e45_0; simp only [Int.toNat_zero, Int.reduceToNat, Int.toNat_natCast, Nat.zero_mul, Nat.one_mul, Nat.zero_add, Nat.add_zero, Addr.add_zero', Addr.add_succ', Nat.reduceMul, Nat.reduceAdd] at e45_0')); (try (have e45_1' := e45_1; simp only [Int.toNat_zero, Int.reduceToNat, Int.toNat_natCast, Nat.zero_mul, Nat.one_mul, Nat.zero_add, Nat.add_zero, Addr.add_zero', Addr.add_succ', Nat.reduceMul, Nat.reduceAdd] at e45_1')); (try (have e45_2' := e45_2; simp only [Int.toNat_zero, Int.reduceToNat, Int.toNat_natCast, Nat.zero_mul, Nat.one_mul, Nat.zero_add, Nat.add_zero, Addr.add_zero', Addr.add_succ', Nat.reduceMul, Nat.reduceAdd] at e45_2'))
 replace H := zbind H; obtain ⟨t48, ht48, H⟩ := H
 replace H := zgo H; obtain ⟨c49, H⟩ := H
 have c49n : (4 < y18.length) = True := eq_true (by have := of_eq_true c49; omega)
 obtain ⟨ad50, B50_2, d50_2, hq50, e50_0, e50_1, e50_2, m50_2, y50_2⟩ := at_T66 gj18 4 (of_eq_true (eq_true (by decide))) (of_eq_true c49); obtain rfl := Option.some.inj hq50; (try (have e50_0' := e50_0; simp only [Int.toNat_zero, Int.reduceToNat, Int.toNat_natCast, Nat.zero_mul, Nat.one_mul, Nat.zero_add, Nat.add_zero, Addr.add_zero', Addr.add_succ', Nat.reduceMul, Nat.reduceAdd] at e50_0')); (try (have e50_1' := e50_1; simp only [Int.toNat_zero, Int.reduceToNat, Int.toNat_natCast, Nat.zero_mul, Nat.one_mul, Nat.zero_add, Nat.add_zero, Addr.add_zero', Addr.add_succ', Nat.reduceMul, Nat.reduceAdd] at e50_1')); (try (have e50_2' := e50_2; simp only [Int.toNat_zero, Int.reduceToNat, Int.toNat_natCast, Nat.zero_mul, Nat.one_mul, Nat.zero_add, Nat.add_zero, Addr.add_zero', Addr.add_succ', Nat.reduceMul, Nat.reduceAdd] at e50_2'))
 replace H := zbind H; obtain ⟨t53, ht53, H⟩ := H
 replace H := zgo H; obtain ⟨c54, H⟩ := H
 have c54n : (5 < y18.length) = True := eq_true (by have := of_eq_true c54; omega)
 obtain ⟨ad55, B55_2, d55_2, hq55, e55_0, e55_1, e55_2, m55_2, y55_2⟩ := at_T66 gj18 5 (of_eq_true (eq_true (by decide))) (of_eq_true c54); obtain rfl := Option.some.inj hq55; (try (have e55_0' := e55_0; simp only [Int.toNat_zero, Int.reduceToNat, Int.toNat_natCast, Nat.zero_mul, Nat.one_mul, Nat.zero_add, Nat.add_zero, Addr.add_zero', Addr.add_succ', Nat.reduceMul, Nat.reduceAdd] at e55_0')); (try (have e55_1' := e55_1; simp only [Int.toNat_zero, Int.reduceToNat, Int.toNat_natCast, Nat.zero_mul, Nat.one_mul, Nat.zero_add, Nat.add_zero, Addr.add_zero', Addr.add_succ', Nat.reduceMul, Nat.reduceAdd] at e55_1')); (try (have e55_2' := e55_2; simp only [Int.toNat_zero, Int.reduceToNat, Int.toNat_natCast, Nat.zero_mul, Nat.one_mul, Nat.zero_add, Nat.add_zero, Addr.add_zero', Addr.add_succ', Nat.reduceMul, Nat.reduceAdd] at e55_2'))
 replace H := zbind H; obtain ⟨t56, ht56, H⟩ := H
 refine dr_start2 [.box g2 [.slice none 0 0, .int .i64 0, .int .i64 0, .int .i64 0, .int .i64 0, .bool false] 26, .emp] [32] HS (HS.arr [some 0, none] (by decide)) #[false, false, false, false, false, false, false, false, false, false, false, false, false, false, false, false, false, false, false, false, false, false, false, false, false, false, false, false, false, false, false, false, false] (by kernel_rfl) rfl rfl impl_ReadAsk.tT6 (fun w22 HT HS HH => ?_)
 (try clear F)
 refine join_ 0 #[true, true, true, true, true, true, true, true, true, true, true, true, true, true, true, true, true, true, true, true, true, true, true, true, true, true, true, true, true, true, true, true, true] (fun ((v17, g8, pe26, pe27, pe31, pe32, pe36, pe37, pe41, pe42, pe46, pe47, pe51, pe52) : Value × Nat × Value × Value × Value × Value × Value × Value × Value × Value × Value × Value × Value × Value) => ([(24, .pointer (some ⟨g20, 0, none⟩)), (25, .slice (some ad13) y18.length d18), (26, pe26), (27, pe27), (28, v17), (29, .pointer (some ⟨g20, 0, none⟩)), (30, .slice (some ad13) y18.length d18), (31, pe31), (32, pe32), (33, .int .i64 t25.1), (34, .pointer (some ⟨g20, 0, none⟩)), (35, .slice (some ad13) y18.length d18), (36, pe36), (37, pe37), (38, .int .i64 t38.1), (39, .pointer (some ⟨g20, 0, none⟩)), (40, .slice (some ad13) y18.length d18), (41, pe41), (42, pe42), (43, .int .i64 t48.1), (44, .pointer (some ⟨g20, 0, none⟩)), (45, .slice (some ad13) y18.length d18), (46, pe46), (47, pe47), (48, .int .i64 t53.1), (49, .pointer (some ⟨g20, 0, none⟩)), (50, .slice (some ad13) y18.length d18), (51, pe51), (52, pe52), (53, .bool t56.1), (54, .agg #[v17, .int .i64 t25.1, .int .i64 t38.1, .int .i64 t48.1, .int .i64 t53.1, .bool t56.1]), (8, .pointer (some ⟨g8, 0, none⟩))] : List (Tmp × Value))) (fun ((v17, g8, pe26, pe27, pe31, pe32, pe36, pe37, pe41, pe42, pe46, pe47, pe51, pe52) : Value × Nat × Value × Value × Value × Value × Value × Value × Value × Value × Value × Value × Value × Value) w' => Hp A19 wt15 w' [.box g2 [.slice none 0 0, .int .i64 0, .int .i64 0, .int .i64 0, .int .i64 0, .bool false] 26, .box g20 [.bool t56.2.f0] 77, .own (Zd.slice 9 Zd.string) t14.1 [v17], .box g8 [v17, .int .i64 t25.1, .int .i64 t38.1, .int .i64 t48.1, .int .i64 t53.1, .bool t56.1] 26]) ?_ ?_
 rotate_left
 · intro hJ
   refine drq_of [(0, some 24), (1, some 25), (2, some 26)] ?_
   repeat (refine drp HT ?_)
   refine drq_end ?_
   refine dr_take 3 (some 27) HT HH (v := ?_) (a' := ?_) rfl rfl (by kernel_rfl) (fun _ _ _ h => h) (.inl ⟨by rfl, ?_⟩) ?_ ?_
   rotate_left
   · rintro w' ⟨rs', HS'⟩; have e13_0 := (hV.keepc HS' e13_0); have e13_1 := (hV.keepc HS' e13_1); have e13_2 := (hV.keepc HS' e13_2); (try simp only [Int.toNat_zero, Int.reduceToNat, Int.toNat_natCast, Nat.zero_mul, Nat.one_mul, Nat.zero_add, Nat.add_zero, Addr.add_zero', Addr.add_succ', Nat.reduceMul, Nat.reduceAdd] at e13_0 e13_1 e13_2); go_simp; with_reducible rfl
   rotate_left
   · simp only [Act.put, ptn]; rfl
   refine drq_of [(5, some 29), (6, some 30), (7, some 31)] ?_
   repeat (refine drp HT ?_)
   refine drq_end ?_
   refine dr_take 8 (some 32) HT HH (v := ?_) (a' := ?_) rfl rfl (by kernel_rfl) (fun _ _ _ h => h) (.inl ⟨by rfl, ?_⟩) ?_ ?_
   rotate_left
   · rintro w' ⟨rs', HS'⟩; have e23_0 := (hV.keepc HS' e23_0); have e23_1 := (hV.keepc HS' e23_1); have e23_2 := (hV.keepc HS' e23_2); (try simp only [Int.toNat_zero, Int.reduceToNat, Int.toNat_natCast, Nat.zero_mul, Nat.one_mul, Nat.zero_add, Nat.add_zero, Addr.add_zero', Addr.add_succ', Nat.reduceMul, Nat.reduceAdd] at e23_0 e23_1 e23_2); go_simp; with_reducible rfl
   rotate_left
   · simp only [Act.put, ptn]; rfl
   refine drq_of [(10, some 34), (11, some 35), (12, some 36)] ?_
   repeat (refine drp HT ?_)
   refine drq_end ?_
   refine dr_take 13 (some 37) HT HH (v := ?_) (a' := ?_) rfl rfl (by kernel_rfl) (fun _ _ _ h => h) (.inl ⟨by rfl, ?_⟩) ?_ ?_
   rotate_left
   · rintro w' ⟨rs', HS'⟩; have e34_0 := (hV.keepc HS' e34_0); have e34_1 := (hV.keepc HS' e34_1); have e34_2 := (hV.keepc HS' e34_2); (try simp only [Int.toNat_zero, Int.reduceToNat, Int.toNat_natCast, Nat.zero_mul, Nat.one_mul, Nat.zero_add, Nat.add_zero, Addr.add_zero', Addr.add_succ', Nat.reduceMul, Nat.reduceAdd] at e34_0 e34_1 e34_2); go_simp; with_reducible rfl
   rotate_left
   · simp only [Act.put, ptn]; rfl
   refine drq_of [(15, some 39), (16, some 40), (17, some 41)] ?_
   repeat (refine drp HT ?_)
   refine drq_end ?_
   refine dr_take 18 (some 42) HT HH (v := ?_) (a' := ?_) rfl rfl (by kernel_rfl) (fun _ _ _ h => h) (.inl ⟨by rfl, ?_⟩) ?_ ?_
   rotate_left
   · rintro w' ⟨rs', HS'⟩; have e45_0 := (hV.keepc HS' e45_0); have e45_1 := (hV.keepc HS' e45_1); have e45_2 := (hV.keepc HS' e45_2); (try simp only [Int.toNat_zero, Int.reduceToNat, Int.toNat_natCast, Nat.zero_mul, Nat.one_mul, Nat.zero_add, Nat.add_zero, Addr.add_zero', Addr.add_succ', Nat.reduceMul, Nat.reduceAdd] at e45_0 e45_1 e45_2); go_simp; with_reducible rfl
   rotate_left
   · simp only [Act.put, ptn]; rfl
   refine drq_of [(20, some 44), (21, some 45), (22, some 46)] ?_
   repeat (refine drp HT ?_)
   refine drq_end ?_
   refine dr_take 23 (some 47) HT HH (v := ?_) (a' := ?_) rfl rfl (by kernel_rfl) (fun _ _ _ h => h) (.inl ⟨by rfl, ?_⟩) ?_ ?_
   rotate_left
   · rintro w' ⟨rs', HS'⟩; have e50_0 := (hV.keepc HS' e50_0); have e50_1 := (hV.keepc HS' e50_1); have e50_2 := (hV.keepc HS' e50_2); (try simp only [Int.toNat_zero, Int.reduceToNat, Int.toNat_natCast, Nat.zero_mul, Nat.one_mul, Nat.zero_add, Nat.add_zero, Addr.add_zero', Addr.add_succ', Nat.reduceMul, Nat.reduceAdd] at e50_0 e50_1 e50_2); go_simp; with_reducible rfl
   rotate_left
   · simp only [Act.put, ptn]; rfl
   refine drq_of [(25, some 49), (26, some 50), (27, some 51)] ?_
   repeat (refine drp HT ?_)
   refine drq_end ?_
   refine dr_take 28 (some 52) HT HH (v := ?_) (a' := ?_) rfl rfl (by kernel_rfl) (fun _ _ _ h => h) (.inl ⟨by rfl, ?_⟩) ?_ ?_
   rotate_left
   · rintro w' ⟨rs', HS'⟩; have e55_0 := (hV.keepc HS' e55_0); have e55_1 := (hV.keepc HS' e55_1); have e55_2 := (hV.keepc HS' e55_2); (try simp only [Int.toNat_zero, Int.reduceToNat, Int.toNat_natCast, Nat.zero_mul, Nat.one_mul, Nat.zero_add, Nat.add_zero, Addr.add_zero', Addr.add_succ', Nat.reduceMul, Nat.reduceAdd] at e55_0 e55_1 e55_2); go_simp; with_reducible rfl
   rotate_left
   · simp only [Act.put, ptn]; rfl
   refine dr_any [4, 31] HT (by kernel_rfl) (by decide) (AllReadyL.cons rfl (by decide) (fun K hK => ?_) (AllReadyL.cons rfl (by decide) (fun K hK => ?_) AllReadyL.nil))
   · refine HS.lend [1] (by decide) [.box g20 [.bool t15.2.f0] 77] rfl (fun A' HL HD HA HB => ?_); refine goes_ Tryz.func42 (by kernel_rfl) rfl #[.pointer (some ⟨g20, 0, none⟩), .agg #[.int .i64 ((rd_T66 y18 0).f0), .string ((rd_T66 y18 0).f1), .slice B13_2 (rd_T66 y18 0).f2.length d13_2], .int .i64 4] (by rfl) rfl rfl (by simp only [mpn]; rfl) ?_; refine (impl_opener_texts_0.calls ht14.out y13_2 m13_2 (hV.lend HS HL) HA).mono ?_; rintro _ wt14 ⟨v17, rfl, HQ⟩; refine ⟨_, rfl, ?_⟩; replace HS := HB _ _ HQ (Nat.le_of_ble_eq_true rfl); clear HQ HA HB HL HD; (try simp only [hpn, hpm] at HS); (try clear F); obtain ⟨B17, d17, rfl, m17⟩ := HS.form 2 rfl
     (try simp only [hpn, hpm] at HS)
     have F := HS.boxes; simp only [bxn] at F
     refine hK.out _ _ ⟨[], HS.arr [some 0, none] (by decide)⟩ (fun HH => ?_)
     clear hK K
     refine norm_ (a' := ?_) ?_ ?_
     rotate_left
     · show Act.put _ (some 28) _ = _; simp only [Act.put, ptn, c12]; rfl
     refine dr_any [9, 31] HT (by kernel_rfl) (by decide) (AllReadyL.cons rfl (by decide) (fun K hK => ?_) (AllReadyL.cons rfl (by decide) (fun K hK => ?_) AllReadyL.nil))
     · refine HS.lend [1] (by decide) [.box g20 [.bool t14.2.f0] 77] rfl (fun A' HL HD HA HB => ?_); refine goes_ Tryz.func43 (by kernel_rfl) rfl #[.pointer (some ⟨g20, 0, none⟩), .agg #[.int .i64 ((rd_T66 y18 1).f0), .string ((rd_T66 y18 1).f1), .slice B23_2 (rd_T66 y18 1).f2.length d23_2]] (by rfl) rfl rfl (by simp only [mpn]; rfl) ?_; refine (impl_opener_num_0.calls ht25.out y23_2 m23_2 (hV.lend HS HL) HA).mono ?_; rintro _ wt25 ⟨rfl, HQ⟩; refine ⟨_, rfl, ?_⟩; replace HS := HB _ _ HQ (Nat.le_of_ble_eq_true rfl); clear HQ HA HB HL HD; (try simp only [hpn, hpm] at HS); (try clear F)
       (try simp only [hpn, hpm] at HS)
       have F := HS.boxes; simp only [bxn] at F
       refine hK.out _ _ ⟨[], HS.arr [some 0, none] (by decide)⟩ (fun HH => ?_)
       clear hK K
       refine norm_ (a' := ?_) ?_ ?_
       rotate_left
       · show Act.put _ (some 33) _ = _; simp only [Act.put, ptn, c12]; rfl
       refine dr_any [14, 31] HT (by kernel_rfl) (by decide) (AllReadyL.cons rfl (by decide) (fun K hK => ?_) (AllReadyL.cons rfl (by decide) (fun K hK => ?_) AllReadyL.nil))
       · refine HS.lend [1] (by decide) [.box g20 [.bool t25.2.f0] 77] rfl (fun A' HL HD HA HB => ?_); refine goes_ Tryz.func43 (by kernel_rfl) rfl #[.pointer (some ⟨g20, 0, none⟩), .agg #[.int .i64 ((rd_T66 y18 2).f0), .string ((rd_T66 y18 2).f1), .slice B34_2 (rd_T66 y18 2).f2.length d34_2]] (by rfl) rfl rfl (by simp only [mpn]; rfl) ?_; refine (impl_opener_num_0.calls ht38.out y34_2 m34_2 (hV.lend HS HL) HA).mono ?_; rintro _ wt38 ⟨rfl, HQ⟩; refine ⟨_, rfl, ?_⟩; replace HS := HB _ _ HQ (Nat.le_of_ble_eq_true rfl); clear HQ HA HB HL HD; (try simp only [hpn, hpm] at HS); (try clear F)
         (try simp only [hpn, hpm] at HS)
         have F := HS.boxes; simp only [bxn] at F
         refine hK.out _ _ ⟨[], HS.arr [some 0, none] (by decide)⟩ (fun HH => ?_)
         clear hK K
         refine norm_ (a' := ?_) ?_ ?_
         rotate_left
         · show Act.put _ (some 38) _ = _; simp only [Act.put, ptn, c12]; rfl
         refine dr_any [19, 31] HT (by kernel_rfl) (by decide) (AllReadyL.cons rfl (by decide) (fun K hK => ?_) (AllReadyL.cons rfl (by decide) (fun K hK => ?_) AllReadyL.nil))
         · refine HS.lend [1] (by decide) [.box g20 [.bool t38.2.f0] 77] rfl (fun A' HL HD HA HB => ?_); refine goes_ Tryz.func43 (by kernel_rfl) rfl #[.pointer (some ⟨g20, 0, none⟩), .agg #[.int .i64 ((rd_T66 y18 3).f0), .string ((rd_T66 y18 3).f1), .slice B45_2 (rd_T66 y18 3).f2.length d45_2]] (by rfl) rfl rfl (by simp only [mpn]; rfl) ?_; refine (impl_opener_num_0.calls ht48.out y45_2 m45_2 (hV.lend HS HL) HA).mono ?_; rintro _ wt48 ⟨rfl, HQ⟩; refine ⟨_, rfl, ?_⟩; replace HS := HB _ _ HQ (Nat.le_of_ble_eq_true rfl); clear HQ HA HB HL HD; (try simp only [hpn, hpm] at HS); (try clear F)
           (try simp only [hpn, hpm] at HS)
           have F := HS.boxes; simp only [bxn] at F
           refine hK.out _ _ ⟨[], HS.arr [some 0, none] (by decide)⟩ (fun HH => ?_)
           clear hK K
           refine norm_ (a' := ?_) ?_ ?_
           rotate_left
           · show Act.put _ (some 43) _ = _; simp only [Act.put, ptn, c12]; rfl
           refine dr_any [24, 31] HT (by kernel_rfl) (by decide) (AllReadyL.cons rfl (by decide) (fun K hK => ?_) (AllReadyL.cons rfl (by decide) (fun K hK => ?_) AllReadyL.nil))
           · refine HS.lend [1] (by decide) [.box g20 [.bool t48.2.f0] 77] rfl (fun A' HL HD HA HB => ?_); refine goes_ Tryz.func43 (by kernel_rfl) rfl #[.pointer (some ⟨g20, 0, none⟩), .agg #[.int .i64 ((rd_T66 y18 4).f0), .string ((rd_T66 y18 4).f1), .slice B50_2 (rd_T66 y18 4).f2.length d50_2]] (by rfl) rfl rfl (by simp only [mpn]; rfl) ?_; refine (impl_opener_num_0.calls ht53.out y50_2 m50_2 (hV.lend HS HL) HA).mono ?_; rintro _ wt53 ⟨rfl, HQ⟩; refine ⟨_, rfl, ?_⟩; replace HS := HB _ _ HQ (Nat.le_of_ble_eq_true rfl); clear HQ HA HB HL HD; (try simp only [hpn, hpm] at HS); (try clear F)
             (try simp only [hpn, hpm] at HS)
             have F := HS.boxes; simp only [bxn] at F
             refine hK.out _ _ ⟨[], HS.arr [some 0, none] (by decide)⟩ (fun HH => ?_)
             clear hK K
             refine norm_ (a' := ?_) ?_ ?_
             rotate_left
             · show Act.put _ (some 48) _ = _; simp only [Act.put, ptn, c12]; rfl
             refine dr_any [29, 31] HT (by kernel_rfl) (by decide) (AllReadyL.cons rfl (by decide) (fun K hK => ?_) (AllReadyL.cons rfl (by decide) (fun K hK => ?_) AllReadyL.nil))
             · refine HS.lend [1] (by decide) [.box g20 [.bool t53.2.f0] 77] rfl (fun A' HL HD HA HB => ?_); refine goes_ Tryz.func44 (by kernel_rfl) rfl #[.pointer (some ⟨g20, 0, none⟩), .agg #[.int .i64 ((rd_T66 y18 5).f0), .string ((rd_T66 y18 5).f1), .slice B55_2 (rd_T66 y18 5).f2.length d55_2]] (by rfl) rfl rfl (by simp only [mpn]; rfl) ?_; refine (impl_opener_flag_0.calls ht56.out y55_2 m55_2 (hV.lend HS HL) HA).mono ?_; rintro _ wt56 ⟨rfl, HQ⟩; refine ⟨_, rfl, ?_⟩; replace HS := HB _ _ HQ (Nat.le_of_ble_eq_true rfl); clear HQ HA HB HL HD; (try simp only [hpn, hpm] at HS); (try clear F)
               (try simp only [hpn, hpm] at HS)
               have F := HS.boxes; simp only [bxn] at F
               refine hK.out _ _ ⟨[], HS.arr [some 0, none] (by decide)⟩ (fun HH => ?_)
               clear hK K
               refine norm_ (a' := ?_) ?_ ?_
               rotate_left
               · show Act.put _ (some 53) _ = _; simp only [Act.put, ptn, c12]; rfl
               refine drq_of [(30, some 54)] ?_
               repeat (refine drp HT ?_)
               refine drq_end ?_
               refine dr1 31 HT fun K hK => ?_
               refine if_bx HS ?_; clear HS; intro g8 w8 HS F
               refine hK.out _ _ ⟨[], HS.arr [some 0, none] (by decide)⟩ (fun HH => ?_)
               clear hK K
               refine norm_ (a' := ?_) ?_ ?_
               rotate_left
               · show Act.put _ (some 8) _ = _; simp only [Act.put, ptn, c12]; rfl
               refine dr_last 32 HT rfl (by kernel_rfl) (by decide) (fun K hK => ?_)
               refine if_st 3 0 HS (seg := [.slice B17 t14.1.length d17, .int .i64 t25.1, .int .i64 t38.1, .int .i64 t48.1, .int .i64 t53.1, .bool t56.1]) ?_; clear HS; intro w57 HS F
               refine hK.out _ _ ?_
               clear hK K
               refine norm_ ?_ (hJ (.slice B17 t14.1.length d17, g8, .pointer (some ad13), .agg #[.int .i64 ((rd_T66 y18 0).f0), .string ((rd_T66 y18 0).f1), .slice B13_2 (rd_T66 y18 0).f2.length d13_2], .pointer (some (ad13.add 3)), .agg #[.int .i64 ((rd_T66 y18 1).f0), .string ((rd_T66 y18 1).f1), .slice B23_2 (rd_T66 y18 1).f2.length d23_2], .pointer (some (ad13.add 6)), .agg #[.int .i64 ((rd_T66 y18 2).f0), .string ((rd_T66 y18 2).f1), .slice B34_2 (rd_T66 y18 2).f2.length d34_2], .pointer (some (ad13.add 9)), .agg #[.int .i64 ((rd_T66 y18 3).f0), .string ((rd_T66 y18 3).f1), .slice B45_2 (rd_T66 y18 3).f2.length d45_2], .pointer (some (ad13.add 12)), .agg #[.int .i64 ((rd_T66 y18 4).f0), .string ((rd_T66 y18 4).f1), .slice B50_2 (rd_T66 y18 4).f2.length d50_2], .pointer (some (ad13.add 15)), .agg #[.int .i64 ((rd_T66 y18 5).f0), .string ((rd_T66 y18 5).f1), .slice B55_2 (rd_T66 y18 5).f2.length d55_2]) _ (HS.arr [some 0, some 1, some 2, some 3] (by decide)))
               simp only [putAll, Act.put, ptn, c12]
               (try rfl)
             · refine if_bx HS ?_; clear HS; intro g8 w8 HS F
               refine hK.out _ _ ⟨[], HS.arr [some 0, none] (by decide)⟩ (fun HH => ?_)
               clear hK K
               refine norm_ (a' := ?_) ?_ ?_
               rotate_left
               · show Act.put _ (some 8) _ = _; simp only [Act.put, ptn, c12]; rfl
               refine dr1 29 HT fun K hK => ?_
               refine HS.lend [1] (by decide) [.box g20 [.bool t53.2.f0] 77] rfl (fun A' HL HD HA HB => ?_); refine goes_ Tryz.func44 (by kernel_rfl) rfl #[.pointer (some ⟨g20, 0, none⟩), .agg #[.int .i64 ((rd_T66 y18 5).f0), .string ((rd_T66 y18 5).f1), .slice B55_2 (rd_T66 y18 5).f2.length d55_2]] (by rfl) rfl rfl (by simp only [mpn]; rfl) ?_; refine (impl_opener_flag_0.calls ht56.out y55_2 m55_2 (hV.lend HS HL) HA).mono ?_; rintro _ wt56 ⟨rfl, HQ⟩; refine ⟨_, rfl, ?_⟩; replace HS := HB _ _ HQ (Nat.le_of_ble_eq_true rfl); clear HQ HA HB HL HD; (try simp only [hpn, hpm] at HS); (try clear F)
               (try simp only [hpn, hpm] at HS)
               have F := HS.boxes; simp only [bxn] at F
               refine hK.out _ _ ⟨[], HS.arr [some 0, none] (by decide)⟩ (fun HH => ?_)
               clear hK K
               refine norm_ (a' := ?_) ?_ ?_
               rotate_left
               · show Act.put _ (some 53) _ = _; simp only [Act.put, ptn, c12]; rfl
               refine drq_of [(30, some 54)] ?_
               repeat (refine drp HT ?_)
               refine drq_end ?_
               refine dr_last 32 HT rfl (by kernel_rfl) (by decide) (fun K hK => ?_)
               refine if_st 3 0 HS (seg := [.slice B17 t14.1.length d17, .int .i64 t25.1, .int .i64 t38.1, .int .i64 t48.1, .int .i64 t53.1, .bool t56.1]) ?_; clear HS; intro w57 HS F
               refine hK.out _ _ ?_
               clear hK K
               refine norm_ ?_ (hJ (.slice B17 t14.1.length d17, g8, .pointer (some ad13), .agg #[.int .i64 ((rd_T66 y18 0).f0), .string ((rd_T66 y18 0).f1), .slice B13_2 (rd_T66 y18 0).f2.length d13_2], .pointer (some (ad13.add 3)), .agg #[.int .i64 ((rd_T66 y18 1).f0), .string ((rd_T66 y18 1).f1), .slice B23_2 (rd_T66 y18 1).f2.length d23_2], .pointer (some (ad13.add 6)), .agg #[.int .i64 ((rd_T66 y18 2).f0), .string ((rd_T66 y18 2).f1), .slice B34_2 (rd_T66 y18 2).f2.length d34_2], .pointer (some (ad13.add 9)), .agg #[.int .i64 ((rd_T66 y18 3).f0), .string ((rd_T66 y18 3).f1), .slice B45_2 (rd_T66 y18 3).f2.length d45_2], .pointer (some (ad13.add 12)), .agg #[.int .i64 ((rd_T66 y18 4).f0), .string ((rd_T66 y18 4).f1), .slice B50_2 (rd_T66 y18 4).f2.length d50_2], .pointer (some (ad13.add 15)), .agg #[.int .i64 ((rd_T66 y18 5).f0), .string ((rd_T66 y18 5).f1), .slice B55_2 (rd_T66 y18 5).f2.length d55_2]) _ (HS.arr [some 0, some 1, some 2, some 3] (by decide)))
               simp only [putAll, Act.put, ptn, c12]
               (try rfl)
           · refine if_bx HS ?_; clear HS; intro g8 w8 HS F
             refine hK.out _ _ ⟨[], HS.arr [some 0, none] (by decide)⟩ (fun HH => ?_)
             clear hK K
             refine norm_ (a' := ?_) ?_ ?_
             rotate_left
             · show Act.put _ (some 8) _ = _; simp only [Act.put, ptn, c12]; rfl
             refine dr1 24 HT fun K hK => ?_
             refine HS.lend [1] (by decide) [.box g20 [.bool t48.2.f0] 77] rfl (fun A' HL HD HA HB => ?_); refine goes_ Tryz.func43 (by kernel_rfl) rfl #[.pointer (some ⟨g20, 0, none⟩), .agg #[.int .i64 ((rd_T66 y18 4).f0), .string ((rd_T66 y18 4).f1), .slice B50_2 (rd_T66 y18 4).f2.length d50_2]] (by rfl) rfl rfl (by simp only [mpn]; rfl) ?_; refine (impl_opener_num_0.calls ht53.out y50_2 m50_2 (hV.lend HS HL) HA).mono ?_; rintro _ wt53 ⟨rfl, HQ⟩; refine ⟨_, rfl, ?_⟩; replace HS := HB _ _ HQ (Nat.le_of_ble_eq_true rfl); clear HQ HA HB HL HD; (try simp only [hpn, hpm] at HS); (try clear F)
             (try simp only [hpn, hpm] at HS)
             have F := HS.boxes; simp only [bxn] at F
             refine hK.out _ _ ⟨[], HS.arr [some 0, none] (by decide)⟩ (fun HH => ?_)
             clear hK K
             refine norm_ (a' := ?_) ?_ ?_
             rotate_left
             · show Act.put _ (some 48) _ = _; simp only [Act.put, ptn, c12]; rfl
             refine dr1 29 HT fun K hK => ?_
             refine HS.lend [1] (by decide) [.box g20 [.bool t53.2.f0] 77] rfl (fun A' HL HD HA HB => ?_); refine goes_ Tryz.func44 (by kernel_rfl) rfl #[.pointer (some ⟨g20, 0, none⟩), .agg #[.int .i64 ((rd_T66 y18 5).f0), .string ((rd_T66 y18 5).f1), .slice B55_2 (rd_T66 y18 5).f2.length d55_2]] (by rfl) rfl rfl (by simp only [mpn]; rfl) ?_; refine (impl_opener_flag_0.calls ht56.out y55_2 m55_2 (hV.lend HS HL) HA).mono ?_; rintro _ wt56 ⟨rfl, HQ⟩; refine ⟨_, rfl, ?_⟩; replace HS := HB _ _ HQ (Nat.le_of_ble_eq_true rfl); clear HQ HA HB HL HD; (try simp only [hpn, hpm] at HS); (try clear F)
             (try simp only [hpn, hpm] at HS)
             have F := HS.boxes; simp only [bxn] at F
             refine hK.out _ _ ⟨[], HS.arr [some 0, none] (by decide)⟩ (fun HH => ?_)
             clear hK K
             refine norm_ (a' := ?_) ?_ ?_
             rotate_left
             · show Act.put _ (some 53) _ = _; simp only [Act.put, ptn, c12]; rfl
             refine drq_of [(30, some 54)] ?_
             repeat (refine drp HT ?_)
             refine drq_end ?_
             refine dr_last 32 HT rfl (by kernel_rfl) (by decide) (fun K hK => ?_)
             refine if_st 3 0 HS (seg := [.slice B17 t14.1.length d17, .int .i64 t25.1, .int .i64 t38.1, .int .i64 t48.1, .int .i64 t53.1, .bool t56.1]) ?_; clear HS; intro w57 HS F
             refine hK.out _ _ ?_
             clear hK K
             refine norm_ ?_ (hJ (.slice B17 t14.1.length d17, g8, .pointer (some ad13), .agg #[.int .i64 ((rd_T66 y18 0).f0), .string ((rd_T66 y18 0).f1), .slice B13_2 (rd_T66 y18 0).f2.length d13_2], .pointer (some (ad13.add 3)), .agg #[.int .i64 ((rd_T66 y18 1).f0), .string ((rd_T66 y18 1).f1), .slice B23_2 (rd_T66 y18 1).f2.length d23_2], .pointer (some (ad13.add 6)), .agg #[.int .i64 ((rd_T66 y18 2).f0), .string ((rd_T66 y18 2).f1), .slice B34_2 (rd_T66 y18 2).f2.length d34_2], .pointer (some (ad13.add 9)), .agg #[.int .i64 ((rd_T66 y18 3).f0), .string ((rd_T66 y18 3).f1), .slice B45_2 (rd_T66 y18 3).f2.length d45_2], .pointer (some (ad13.add 12)), .agg #[.int .i64 ((rd_T66 y18 4).f0), .string ((rd_T66 y18 4).f1), .slice B50_2 (rd_T66 y18 4).f2.length d50_2], .pointer (some (ad13.add 15)), .agg #[.int .i64 ((rd_T66 y18 5).f0), .string ((rd_T66 y18 5).f1), .slice B55_2 (rd_T66 y18 5).f2.length d55_2]) _ (HS.arr [some 0, some 1, some 2, some 3] (by decide)))
             simp only [putAll, Act.put, ptn, c12]
             (try rfl)
         · refine if_bx HS ?_; clear HS; intro g8 w8 HS F
           refine hK.out _ _ ⟨[], HS.arr [some 0, none] (by decide)⟩ (fun HH => ?_)
           clear hK K
           refine norm_ (a' := ?_) ?_ ?_
           rotate_left
           · show Act.put _ (some 8) _ = _; simp only [Act.put, ptn, c12]; rfl
           refine dr1 19 HT fun K hK => ?_
           refine HS.lend [1] (by decide) [.box g20 [.bool t38.2.f0] 77] rfl (fun A' HL HD HA HB => ?_); refine goes_ Tryz.func43 (by kernel_rfl) rfl #[.pointer (some ⟨g20, 0, none⟩), .agg #[.int .i64 ((rd_T66 y18 3).f0), .string ((rd_T66 y18 3).f1), .slice B45_2 (rd_T66 y18 3).f2.length d45_2]] (by rfl) rfl rfl (by simp only [mpn]; rfl) ?_; refine (impl_opener_num_0.calls ht48.out y45_2 m45_2 (hV.lend HS HL) HA).mono ?_; rintro _ wt48 ⟨rfl, HQ⟩; refine ⟨_, rfl, ?_⟩; replace HS := HB _ _ HQ (Nat.le_of_ble_eq_true rfl); clear HQ HA HB HL HD; (try simp only [hpn, hpm] at HS); (try clear F)
           (try simp only [hpn, hpm] at HS)
           have F := HS.boxes; simp only [bxn] at F
           refine hK.out _ _ ⟨[], HS.arr [some 0, none] (by decide)⟩ (fun HH => ?_)
           clear hK K
           refine norm_ (a' := ?_) ?_ ?_
           rotate_left
           · show Act.put _ (some 43) _ = _; simp only [Act.put, ptn, c12]; rfl
           refine dr1 24 HT fun K hK => ?_
           refine HS.lend [1] (by decide) [.box g20 [.bool t48.2.f0] 77] rfl (fun A' HL HD HA HB => ?_); refine goes_ Tryz.func43 (by kernel_rfl) rfl #[.pointer (some ⟨g20, 0, none⟩), .agg #[.int .i64 ((rd_T66 y18 4).f0), .string ((rd_T66 y18 4).f1), .slice B50_2 (rd_T66 y18 4).f2.length d50_2]] (by rfl) rfl rfl (by simp only [mpn]; rfl) ?_; refine (impl_opener_num_0.calls ht53.out y50_2 m50_2 (hV.lend HS HL) HA).mono ?_; rintro _ wt53 ⟨rfl, HQ⟩; refine ⟨_, rfl, ?_⟩; replace HS := HB _ _ HQ (Nat.le_of_ble_eq_true rfl); clear HQ HA HB HL HD; (try simp only [hpn, hpm] at HS); (try clear F)
           (try simp only [hpn, hpm] at HS)
           have F := HS.boxes; simp only [bxn] at F
           refine hK.out _ _ ⟨[], HS.arr [some 0, none] (by decide)⟩ (fun HH => ?_)
           clear hK K
           refine norm_ (a' := ?_) ?_ ?_
           rotate_left
           · show Act.put _ (some 48) _ = _; simp only [Act.put, ptn, c12]; rfl
           refine dr1 29 HT fun K hK => ?_
           refine HS.lend [1] (by decide) [.box g20 [.bool t53.2.f0] 77] rfl (fun A' HL HD HA HB => ?_); refine goes_ Tryz.func44 (by kernel_rfl) rfl #[.pointer (some ⟨g20, 0, none⟩), .agg #[.int .i64 ((rd_T66 y18 5).f0), .string ((rd_T66 y18 5).f1), .slice B55_2 (rd_T66 y18 5).f2.length d55_2]] (by rfl) rfl rfl (by simp only [mpn]; rfl) ?_; refine (impl_opener_flag_0.calls ht56.out y55_2 m55_2 (hV.lend HS HL) HA).mono ?_; rintro _ wt56 ⟨rfl, HQ⟩; refine ⟨_, rfl, ?_⟩; replace HS := HB _ _ HQ (Nat.le_of_ble_eq_true rfl); clear HQ HA HB HL HD; (try simp only [hpn, hpm] at HS); (try clear F)
           (try simp only [hpn, hpm] at HS)
           have F := HS.boxes; simp only [bxn] at F
           refine hK.out _ _ ⟨[], HS.arr [some 0, none] (by decide)⟩ (fun HH => ?_)
           clear hK K
           refine norm_ (a' := ?_) ?_ ?_
           rotate_left
           · show Act.put _ (some 53) _ = _; simp only [Act.put, ptn, c12]; rfl
           refine drq_of [(30, some 54)] ?_
           repeat (refine drp HT ?_)
           refine drq_end ?_
           refine dr_last 32 HT rfl (by kernel_rfl) (by decide) (fun K hK => ?_)
           refine if_st 3 0 HS (seg := [.slice B17 t14.1.length d17, .int .i64 t25.1, .int .i64 t38.1, .int .i64 t48.1, .int .i64 t53.1, .bool t56.1]) ?_; clear HS; intro w57 HS F
           refine hK.out _ _ ?_
           clear hK K
           refine norm_ ?_ (hJ (.slice B17 t14.1.length d17, g8, .pointer (some ad13), .agg #[.int .i64 ((rd_T66 y18 0).f0), .string ((rd_T66 y18 0).f1), .slice B13_2 (rd_T66 y18 0).f2.length d13_2], .pointer (some (ad13.add 3)), .agg #[.int .i64 ((rd_T66 y18 1).f0), .string ((rd_T66 y18 1).f1), .slice B23_2 (rd_T66 y18 1).f2.length d23_2], .pointer (some (ad13.add 6)), .agg #[.int .i64 ((rd_T66 y18 2).f0), .string ((rd_T66 y18 2).f1), .slice B34_2 (rd_T66 y18 2).f2.length d34_2], .pointer (some (ad13.add 9)), .agg #[.int .i64 ((rd_T66 y18 3).f0), .string ((rd_T66 y18 3).f1), .slice B45_2 (rd_T66 y18 3).f2.length d45_2], .pointer (some (ad13.add 12)), .agg #[.int .i64 ((rd_T66 y18 4).f0), .string ((rd_T66 y18 4).f1), .slice B50_2 (rd_T66 y18 4).f2.length d50_2], .pointer (some (ad13.add 15)), .agg #[.int .i64 ((rd_T66 y18 5).f0), .string ((rd_T66 y18 5).f1), .slice B55_2 (rd_T66 y18 5).f2.length d55_2]) _ (HS.arr [some 0, some 1, some 2, some 3] (by decide)))
           simp only [putAll, Act.put, ptn, c12]
           (try rfl)
       · refine if_bx HS ?_; clear HS; intro g8 w8 HS F
         refine hK.out _ _ ⟨[], HS.arr [some 0, none] (by decide)⟩ (fun HH => ?_)
         clear hK K
         refine norm_ (a' := ?_) ?_ ?_
         rotate_left
         · show Act.put _ (some 8) _ = _; simp only [Act.put, ptn, c12]; rfl
         refine dr1 14 HT fun K hK => ?_
         refine HS.lend [1] (by decide) [.box g20 [.bool t25.2.f0] 77] rfl (fun A' HL HD HA HB => ?_); refine goes_ Tryz.func43 (by kernel_rfl) rfl #[.pointer (some ⟨g20, 0, none⟩), .agg #[.int .i64 ((rd_T66 y18 2).f0), .string ((rd_T66 y18 2).f1), .slice B34_2 (rd_T66 y18 2).f2.length d34_2]] (by rfl) rfl rfl (by simp only [mpn]; rfl) ?_; refine (impl_opener_num_0.calls ht38.out y34_2 m34_2 (hV.lend HS HL) HA).mono ?_; rintro _ wt38 ⟨rfl, HQ⟩; refine ⟨_, rfl, ?_⟩; replace HS := HB _ _ HQ (Nat.le_of_ble_eq_true rfl); clear HQ HA HB HL HD; (try simp only [hpn, hpm] at HS); (try clear F)
         (try simp only [hpn, hpm] at HS)
         have F := HS.boxes; simp only [bxn] at F
         refine hK.out _ _ ⟨[], HS.arr [some 0, none] (by decide)⟩ (fun HH => ?_)
         clear hK K
         refine norm_ (a' := ?_) ?_ ?_
         rotate_left
         · show Act.put _ (some 38) _ = _; simp only [Act.put, ptn, c12]; rfl
         refine dr1 19 HT fun K hK => ?_
         refine HS.lend [1] (by decide) [.box g20 [.bool t38.2.f0] 77] rfl (fun A' HL HD HA HB => ?_); refine goes_ Tryz.func43 (by kernel_rfl) rfl #[.pointer (some ⟨g20, 0, none⟩), .agg #[.int .i64 ((rd_T66 y18 3).f0), .string ((rd_T66 y18 3).f1), .slice B45_2 (rd_T66 y18 3).f2.length d45_2]] (by rfl) rfl rfl (by simp only [mpn]; rfl) ?_; refine (impl_opener_num_0.calls ht48.out y45_2 m45_2 (hV.lend HS HL) HA).mono ?_; rintro _ wt48 ⟨rfl, HQ⟩; refine ⟨_, rfl, ?_⟩; replace HS := HB _ _ HQ (Nat.le_of_ble_eq_true rfl); clear HQ HA HB HL HD; (try simp only [hpn, hpm] at HS); (try clear F)
         (try simp only [hpn, hpm] at HS)
         have F := HS.boxes; simp only [bxn] at F
         refine hK.out _ _ ⟨[], HS.arr [some 0, none] (by decide)⟩ (fun HH => ?_)
         clear hK K
         refine norm_ (a' := ?_) ?_ ?_
         rotate_left
         · show Act.put _ (some 43) _ = _; simp only [Act.put, ptn, c12]; rfl
         refine dr1 24 HT fun K hK => ?_
         refine HS.lend [1] (by decide) [.box g20 [.bool t48.2.f0] 77] rfl (fun A' HL HD HA HB => ?_); refine goes_ Tryz.func43 (by kernel_rfl) rfl #[.pointer (some ⟨g20, 0, none⟩), .agg #[.int .i64 ((rd_T66 y18 4).f0), .string ((rd_T66 y18 4).f1), .slice B50_2 (rd_T66 y18 4).f2.length d50_2]] (by rfl) rfl rfl (by simp only [mpn]; rfl) ?_; refine (impl_opener_num_0.calls ht53.out y50_2 m50_2 (hV.lend HS HL) HA).mono ?_; rintro _ wt53 ⟨rfl, HQ⟩; refine ⟨_, rfl, ?_⟩; replace HS := HB _ _ HQ (Nat.le_of_ble_eq_true rfl); clear HQ HA HB HL HD; (try simp only [hpn, hpm] at HS); (try clear F)
         (try simp only [hpn, hpm] at HS)
         have F := HS.boxes; simp only [bxn] at F
         refine hK.out _ _ ⟨[], HS.arr [some 0, none] (by decide)⟩ (fun HH => ?_)
         clear hK K
         refine norm_ (a' := ?_) ?_ ?_
         rotate_left
         · show Act.put _ (some 48) _ = _; simp only [Act.put, ptn, c12]; rfl
         refine dr1 29 HT fun K hK => ?_
         refine HS.lend [1] (by decide) [.box g20 [.bool t53.2.f0] 77] rfl (fun A' HL HD HA HB => ?_); refine goes_ Tryz.func44 (by kernel_rfl) rfl #[.pointer (some ⟨g20, 0, none⟩), .agg #[.int .i64 ((rd_T66 y18 5).f0), .string ((rd_T66 y18 5).f1), .slice B55_2 (rd_T66 y18 5).f2.length d55_2]] (by rfl) rfl rfl (by simp only [mpn]; rfl) ?_; refine (impl_opener_flag_0.calls ht56.out y55_2 m55_2 (hV.lend HS HL) HA).mono ?_; rintro _ wt56 ⟨rfl, HQ⟩; refine ⟨_, rfl, ?_⟩; replace HS := HB _ _ HQ (Nat.le_of_ble_eq_true rfl); clear HQ HA HB HL HD; (try simp only [hpn, hpm] at HS); (try clear F)
         (try simp only [hpn, hpm] at HS)
         have F := HS.boxes; simp only [bxn] at F
         refine hK.out _ _ ⟨[], HS.arr [some 0, none] (by decide)⟩ (fun HH => ?_)
         clear hK K
         refine norm_ (a' := ?_) ?_ ?_
         rotate_left
         · show Act.put _ (some 53) _ = _; simp only [Act.put, ptn, c12]; rfl
         refine drq_of [(30, some 54)] ?_
         repeat (refine drp HT ?_)
         refine drq_end ?_
         refine dr_last 32 HT rfl (by kernel_rfl) (by decide) (fun K hK => ?_)
         refine if_st 3 0 HS (seg := [.slice B17 t14.1.length d17, .int .i64 t25.1, .int .i64 t38.1, .int .i64 t48.1, .int .i64 t53.1, .bool t56.1]) ?_; clear HS; intro w57 HS F
         refine hK.out _ _ ?_
         clear hK K
         refine norm_ ?_ (hJ (.slice B17 t14.1.length d17, g8, .pointer (some ad13), .agg #[.int .i64 ((rd_T66 y18 0).f0), .string ((rd_T66 y18 0).f1), .slice B13_2 (rd_T66 y18 0).f2.length d13_2], .pointer (some (ad13.add 3)), .agg #[.int .i64 ((rd_T66 y18 1).f0), .string ((rd_T66 y18 1).f1), .slice B23_2 (rd_T66 y18 1).f2.length d23_2], .pointer (some (ad13.add 6)), .agg #[.int .i64 ((rd_T66 y18 2).f0), .string ((rd_T66 y18 2).f1), .slice B34_2 (rd_T66 y18 2).f2.length d34_2], .pointer (some (ad13.add 9)), .agg #[.int .i64 ((rd_T66 y18 3).f0), .string ((rd_T66 y18 3).f1), .slice B45_2 (rd_T66 y18 3).f2.length d45_2], .pointer (some (ad13.add 12)), .agg #[.int .i64 ((rd_T66 y18 4).f0), .string ((rd_T66 y18 4).f1), .slice B50_2 (rd_T66 y18 4).f2.length d50_2], .pointer (some (ad13.add 15)), .agg #[.int .i64 ((rd_T66 y18 5).f0), .string ((rd_T66 y18 5).f1), .slice B55_2 (rd_T66 y18 5).f2.length d55_2]) _ (HS.arr [some 0, some 1, some 2, some 3] (by decide)))
         simp only [putAll, Act.put, ptn, c12]
         (try rfl)
     · refine if_bx HS ?_; clear HS; intro g8 w8 HS F
       refine hK.out _ _ ⟨[], HS.arr [some 0, none] (by decide)⟩ (fun HH => ?_)
       clear hK K
       refine norm_ (a' := ?_) ?_ ?_
       rotate_left
       · show Act.put _ (some 8) _ = _; simp only [Act.put, ptn, c12]; rfl
       refine dr1 9 HT fun K hK => ?_
       refine HS.lend [1] (by decide) [.box g20 [.bool t14.2.f0] 77] rfl (fun A' HL HD HA HB => ?_); refine goes_ Tryz.func43 (by kernel_rfl) rfl #[.pointer (some ⟨g20, 0, none⟩), .agg #[.int .i64 ((rd_T66 y18 1).f0), .string ((rd_T66 y18 1).f1), .slice B23_2 (rd_T66 y18 1).f2.length d23_2]] (by rfl) rfl rfl (by simp only [mpn]; rfl) ?_; refine (impl_opener_num_0.calls ht25.out y23_2 m23_2 (hV.lend HS HL) HA).mono ?_; rintro _ wt25 ⟨rfl, HQ⟩; refine ⟨_, rfl, ?_⟩; replace HS := HB _ _ HQ (Nat.le_of_ble_eq_true rfl); clear HQ HA HB HL HD; (try simp only [hpn, hpm] at HS); (try clear F)
       (try simp only [hpn, hpm] at HS)
       have F := HS.boxes; simp only [bxn] at F
       refine hK.out _ _ ⟨[], HS.arr [some 0, none] (by decide)⟩ (fun HH => ?_)
       clear hK K
       refine norm_ (a' := ?_) ?_ ?_
       rotate_left
       · show Act.put _ (some 33) _ = _; simp only [Act.put, ptn, c12]; rfl
       refine dr1 14 HT fun K hK => ?_
       refine HS.lend [1] (by decide) [.box g20 [.bool t25.2.f0] 77] rfl (fun A' HL HD HA HB => ?_); refine goes_ Tryz.func43 (by kernel_rfl) rfl #[.pointer (some ⟨g20, 0, none⟩), .agg #[.int .i64 ((rd_T66 y18 2).f0), .string ((rd_T66 y18 2).f1), .slice B34_2 (rd_T66 y18 2).f2.length d34_2]] (by rfl) rfl rfl (by simp only [mpn]; rfl) ?_; refine (impl_opener_num_0.calls ht38.out y34_2 m34_2 (hV.lend HS HL) HA).mono ?_; rintro _ wt38 ⟨rfl, HQ⟩; refine ⟨_, rfl, ?_⟩; replace HS := HB _ _ HQ (Nat.le_of_ble_eq_true rfl); clear HQ HA HB HL HD; (try simp only [hpn, hpm] at HS); (try clear F)
       (try simp only [hpn, hpm] at HS)
       have F := HS.boxes; simp only [bxn] at F
       refine hK.out _ _ ⟨[], HS.arr [some 0, none] (by decide)⟩ (fun HH => ?_)
       clear hK K
       refine norm_ (a' := ?_) ?_ ?_
       rotate_left
       · show Act.put _ (some 38) _ = _; simp only [Act.put, ptn, c12]; rfl
       refine dr1 19 HT fun K hK => ?_
       refine HS.lend [1] (by decide) [.box g20 [.bool t38.2.f0] 77] rfl (fun A' HL HD HA HB => ?_); refine goes_ Tryz.func43 (by kernel_rfl) rfl #[.pointer (some ⟨g20, 0, none⟩), .agg #[.int .i64 ((rd_T66 y18 3).f0), .string ((rd_T66 y18 3).f1), .slice B45_2 (rd_T66 y18 3).f2.length d45_2]] (by rfl) rfl rfl (by simp only [mpn]; rfl) ?_; refine (impl_opener_num_0.calls ht48.out y45_2 m45_2 (hV.lend HS HL) HA).mono ?_; rintro _ wt48 ⟨rfl, HQ⟩; refine ⟨_, rfl, ?_⟩; replace HS := HB _ _ HQ (Nat.le_of_ble_eq_true rfl); clear HQ HA HB HL HD; (try simp only [hpn, hpm] at HS); (try clear F)
       (try simp only [hpn, hpm] at HS)
       have F := HS.boxes; simp only [bxn] at F
       refine hK.out _ _ ⟨[], HS.arr [some 0, none] (by decide)⟩ (fun HH => ?_)
       clear hK K
       refine norm_ (a' := ?_) ?_ ?_
       rotate_left
       · show Act.put _ (some 43) _ = _; simp only [Act.put, ptn, c12]; rfl
       refine dr1 24 HT fun K hK => ?_
       refine HS.lend [1] (by decide) [.box g20 [.bool t48.2.f0] 77] rfl (fun A' HL HD HA HB => ?_); refine goes_ Tryz.func43 (by kernel_rfl) rfl #[.pointer (some ⟨g20, 0, none⟩), .agg #[.int .i64 ((rd_T66 y18 4).f0), .string ((rd_T66 y18 4).f1), .slice B50_2 (rd_T66 y18 4).f2.length d50_2]] (by rfl) rfl rfl (by simp only [mpn]; rfl) ?_; refine (impl_opener_num_0.calls ht53.out y50_2 m50_2 (hV.lend HS HL) HA).mono ?_; rintro _ wt53 ⟨rfl, HQ⟩; refine ⟨_, rfl, ?_⟩; replace HS := HB _ _ HQ (Nat.le_of_ble_eq_true rfl); clear HQ HA HB HL HD; (try simp only [hpn, hpm] at HS); (try clear F)
       (try simp only [hpn, hpm] at HS)
       have F := HS.boxes; simp only [bxn] at F
       refine hK.out _ _ ⟨[], HS.arr [some 0, none] (by decide)⟩ (fun HH => ?_)
       clear hK K
       refine norm_ (a' := ?_) ?_ ?_
       rotate_left
       · show Act.put _ (some 48) _ = _; simp only [Act.put, ptn, c12]; rfl
       refine dr1 29 HT fun K hK => ?_
       refine HS.lend [1] (by decide) [.box g20 [.bool t53.2.f0] 77] rfl (fun A' HL HD HA HB => ?_); refine goes_ Tryz.func44 (by kernel_rfl) rfl #[.pointer (some ⟨g20, 0, none⟩), .agg #[.int .i64 ((rd_T66 y18 5).f0), .string ((rd_T66 y18 5).f1), .slice B55_2 (rd_T66 y18 5).f2.length d55_2]] (by rfl) rfl rfl (by simp only [mpn]; rfl) ?_; refine (impl_opener_flag_0.calls ht56.out y55_2 m55_2 (hV.lend HS HL) HA).mono ?_; rintro _ wt56 ⟨rfl, HQ⟩; refine ⟨_, rfl, ?_⟩; replace HS := HB _ _ HQ (Nat.le_of_ble_eq_true rfl); clear HQ HA HB HL HD; (try simp only [hpn, hpm] at HS); (try clear F)
       (try simp only [hpn, hpm] at HS)
       have F := HS.boxes; simp only [bxn] at F
       refine hK.out _ _ ⟨[], HS.arr [some 0, none] (by decide)⟩ (fun HH => ?_)
       clear hK K
       refine norm_ (a' := ?_) ?_ ?_
       rotate_left
       · show Act.put _ (some 53) _ = _; simp only [Act.put, ptn, c12]; rfl
       refine drq_of [(30, some 54)] ?_
       repeat (refine drp HT ?_)
       refine drq_end ?_
       refine dr_last 32 HT rfl (by kernel_rfl) (by decide) (fun K hK => ?_)
       refine if_st 3 0 HS (seg := [.slice B17 t14.1.length d17, .int .i64 t25.1, .int .i64 t38.1, .int .i64 t48.1, .int .i64 t53.1, .bool t56.1]) ?_; clear HS; intro w57 HS F
       refine hK.out _ _ ?_
       clear hK K
       refine norm_ ?_ (hJ (.slice B17 t14.1.length d17, g8, .pointer (some ad13), .agg #[.int .i64 ((rd_T66 y18 0).f0), .string ((rd_T66 y18 0).f1), .slice B13_2 (rd_T66 y18 0).f2.length d13_2], .pointer (some (ad13.add 3)), .agg #[.int .i64 ((rd_T66 y18 1).f0), .string ((rd_T66 y18 1).f1), .slice B23_2 (rd_T66 y18 1).f2.length d23_2], .pointer (some (ad13.add 6)), .agg #[.int .i64 ((rd_T66 y18 2).f0), .string ((rd_T66 y18 2).f1), .slice B34_2 (rd_T66 y18 2).f2.length d34_2], .pointer (some (ad13.add 9)), .agg #[.int .i64 ((rd_T66 y18 3).f0), .string ((rd_T66 y18 3).f1), .slice B45_2 (rd_T66 y18 3).f2.length d45_2], .pointer (some (ad13.add 12)), .agg #[.int .i64 ((rd_T66 y18 4).f0), .string ((rd_T66 y18 4).f1), .slice B50_2 (rd_T66 y18 4).f2.length d50_2], .pointer (some (ad13.add 15)), .agg #[.int .i64 ((rd_T66 y18 5).f0), .string ((rd_T66 y18 5).f1), .slice B55_2 (rd_T66 y18 5).f2.length d55_2]) _ (HS.arr [some 0, some 1, some 2, some 3] (by decide)))
       simp only [putAll, Act.put, ptn, c12]
       (try rfl)
   · refine if_bx HS ?_; clear HS; intro g8 w8 HS F
     refine hK.out _ _ ⟨[], HS.arr [some 0, none] (by decide)⟩ (fun HH => ?_)
     clear hK K
     refine norm_ (a' := ?_) ?_ ?_
     rotate_left
     · show Act.put _ (some 8) _ = _; simp only [Act.put, ptn, c12]; rfl
     refine dr1 4 HT fun K hK => ?_
     refine HS.lend [1] (by decide) [.box g20 [.bool t15.2.f0] 77] rfl (fun A' HL HD HA HB => ?_); refine goes_ Tryz.func42 (by kernel_rfl) rfl #[.pointer (some ⟨g20, 0, none⟩), .agg #[.int .i64 ((rd_T66 y18 0).f0), .string ((rd_T66 y18 0).f1), .slice B13_2 (rd_T66 y18 0).f2.length d13_2], .int .i64 4] (by rfl) rfl rfl (by simp only [mpn]; rfl) ?_; refine (impl_opener_texts_0.calls ht14.out y13_2 m13_2 (hV.lend HS HL) HA).mono ?_; rintro _ wt14 ⟨v17, rfl, HQ⟩; refine ⟨_, rfl, ?_⟩; replace HS := HB _ _ HQ (Nat.le_of_ble_eq_true rfl); clear HQ HA HB HL HD; (try simp only [hpn, hpm] at HS); (try clear F); obtain ⟨B17, d17, rfl, m17⟩ := HS.form 3 rfl
     (try simp only [hpn, hpm] at HS)
     have F := HS.boxes; simp only [bxn] at F
     refine hK.out _ _ ⟨[], HS.arr [some 0, none] (by decide)⟩ (fun HH => ?_)
     clear hK K
     refine norm_ (a' := ?_) ?_ ?_
     rotate_left
     · show Act.put _ (some 28) _ = _; simp only [Act.put, ptn, c12]; rfl
     refine dr1 9 HT fun K hK => ?_
     refine HS.lend [1] (by decide) [.box g20 [.bool t14.2.f0] 77] rfl (fun A' HL HD HA HB => ?_); refine goes_ Tryz.func43 (by kernel_rfl) rfl #[.pointer (some ⟨g20, 0, none⟩), .agg #[.int .i64 ((rd_T66 y18 1).f0), .string ((rd_T66 y18 1).f1), .slice B23_2 (rd_T66 y18 1).f2.length d23_2]] (by rfl) rfl rfl (by simp only [mpn]; rfl) ?_; refine (impl_opener_num_0.calls ht25.out y23_2 m23_2 (hV.lend HS HL) HA).mono ?_; rintro _ wt25 ⟨rfl, HQ⟩; refine ⟨_, rfl, ?_⟩; replace HS := HB _ _ HQ (Nat.le_of_ble_eq_true rfl); clear HQ HA HB HL HD; (try simp only [hpn, hpm] at HS); (try clear F)
     (try simp only [hpn, hpm] at HS)
     have F := HS.boxes; simp only [bxn] at F
     refine hK.out _ _ ⟨[], HS.arr [some 0, none] (by decide)⟩ (fun HH => ?_)
     clear hK K
     refine norm_ (a' := ?_) ?_ ?_
     rotate_left
     · show Act.put _ (some 33) _ = _; simp only [Act.put, ptn, c12]; rfl
     refine dr1 14 HT fun K hK => ?_
     refine HS.lend [1] (by decide) [.box g20 [.bool t25.2.f0] 77] rfl (fun A' HL HD HA HB => ?_); refine goes_ Tryz.func43 (by kernel_rfl) rfl #[.pointer (some ⟨g20, 0, none⟩), .agg #[.int .i64 ((rd_T66 y18 2).f0), .string ((rd_T66 y18 2).f1), .slice B34_2 (rd_T66 y18 2).f2.length d34_2]] (by rfl) rfl rfl (by simp only [mpn]; rfl) ?_; refine (impl_opener_num_0.calls ht38.out y34_2 m34_2 (hV.lend HS HL) HA).mono ?_; rintro _ wt38 ⟨rfl, HQ⟩; refine ⟨_, rfl, ?_⟩; replace HS := HB _ _ HQ (Nat.le_of_ble_eq_true rfl); clear HQ HA HB HL HD; (try simp only [hpn, hpm] at HS); (try clear F)
     (try simp only [hpn, hpm] at HS)
     have F := HS.boxes; simp only [bxn] at F
     refine hK.out _ _ ⟨[], HS.arr [some 0, none] (by decide)⟩ (fun HH => ?_)
     clear hK K
     refine norm_ (a' := ?_) ?_ ?_
     rotate_left
     · show Act.put _ (some 38) _ = _; simp only [Act.put, ptn, c12]; rfl
     refine dr1 19 HT fun K hK => ?_
     refine HS.lend [1] (by decide) [.box g20 [.bool t38.2.f0] 77] rfl (fun A' HL HD HA HB => ?_); refine goes_ Tryz.func43 (by kernel_rfl) rfl #[.pointer (some ⟨g20, 0, none⟩), .agg #[.int .i64 ((rd_T66 y18 3).f0), .string ((rd_T66 y18 3).f1), .slice B45_2 (rd_T66 y18 3).f2.length d45_2]] (by rfl) rfl rfl (by simp only [mpn]; rfl) ?_; refine (impl_opener_num_0.calls ht48.out y45_2 m45_2 (hV.lend HS HL) HA).mono ?_; rintro _ wt48 ⟨rfl, HQ⟩; refine ⟨_, rfl, ?_⟩; replace HS := HB _ _ HQ (Nat.le_of_ble_eq_true rfl); clear HQ HA HB HL HD; (try simp only [hpn, hpm] at HS); (try clear F)
     (try simp only [hpn, hpm] at HS)
     have F := HS.boxes; simp only [bxn] at F
     refine hK.out _ _ ⟨[], HS.arr [some 0, none] (by decide)⟩ (fun HH => ?_)
     clear hK K
     refine norm_ (a' := ?_) ?_ ?_
     rotate_left
     · show Act.put _ (some 43) _ = _; simp only [Act.put, ptn, c12]; rfl
     refine dr1 24 HT fun K hK => ?_
     refine HS.lend [1] (by decide) [.box g20 [.bool t48.2.f0] 77] rfl (fun A' HL HD HA HB => ?_); refine goes_ Tryz.func43 (by kernel_rfl) rfl #[.pointer (some ⟨g20, 0, none⟩), .agg #[.int .i64 ((rd_T66 y18 4).f0), .string ((rd_T66 y18 4).f1), .slice B50_2 (rd_T66 y18 4).f2.length d50_2]] (by rfl) rfl rfl (by simp only [mpn]; rfl) ?_; refine (impl_opener_num_0.calls ht53.out y50_2 m50_2 (hV.lend HS HL) HA).mono ?_; rintro _ wt53 ⟨rfl, HQ⟩; refine ⟨_, rfl, ?_⟩; replace HS := HB _ _ HQ (Nat.le_of_ble_eq_true rfl); clear HQ HA HB HL HD; (try simp only [hpn, hpm] at HS); (try clear F)
     (try simp only [hpn, hpm] at HS)
     have F := HS.boxes; simp only [bxn] at F
     refine hK.out _ _ ⟨[], HS.arr [some 0, none] (by decide)⟩ (fun HH => ?_)
     clear hK K
     refine norm_ (a' := ?_) ?_ ?_
     rotate_left
     · show Act.put _ (some 48) _ = _; simp only [Act.put, ptn, c12]; rfl
     refine dr1 29 HT fun K hK => ?_
     refine HS.lend [1] (by decide) [.box g20 [.bool t53.2.f0] 77] rfl (fun A' HL HD HA HB => ?_); refine goes_ Tryz.func44 (by kernel_rfl) rfl #[.pointer (some ⟨g20, 0, none⟩), .agg #[.int .i64 ((rd_T66 y18 5).f0), .string ((rd_T66 y18 5).f1), .slice B55_2 (rd_T66 y18 5).f2.length d55_2]] (by rfl) rfl rfl (by simp only [mpn]; rfl) ?_; refine (impl_opener_flag_0.calls ht56.out y55_2 m55_2 (hV.lend HS HL) HA).mono ?_; rintro _ wt56 ⟨rfl, HQ⟩; refine ⟨_, rfl, ?_⟩; replace HS := HB _ _ HQ (Nat.le_of_ble_eq_true rfl); clear HQ HA HB HL HD; (try simp only [hpn, hpm] at HS); (try clear F)
     (try simp only [hpn, hpm] at HS)
     have F := HS.boxes; simp only [bxn] at F
     refine hK.out _ _ ⟨[], HS.arr [some 0, none] (by decide)⟩ (fun HH => ?_)
     clear hK K
     refine norm_ (a' := ?_) ?_ ?_
     rotate_left
     · show Act.put _ (some 53) _ = _; simp only [Act.put, ptn, c12]; rfl
     refine drq_of [(30, some 54)] ?_
     repeat (refine drp HT ?_)
     refine drq_end ?_
     refine dr_last 32 HT rfl (by kernel_rfl) (by decide) (fun K hK => ?_)
     refine if_st 2 0 HS (seg := [.slice B17 t14.1.length d17, .int .i64 t25.1, .int .i64 t38.1, .int .i64 t48.1, .int .i64 t53.1, .bool t56.1]) ?_; clear HS; intro w57 HS F
     refine hK.out _ _ ?_
     clear hK K
     refine norm_ ?_ (hJ (.slice B17 t14.1.length d17, g8, .pointer (some ad13), .agg #[.int .i64 ((rd_T66 y18 0).f0), .string ((rd_T66 y18 0).f1), .slice B13_2 (rd_T66 y18 0).f2.length d13_2], .pointer (some (ad13.add 3)), .agg #[.int .i64 ((rd_T66 y18 1).f0), .string ((rd_T66 y18 1).f1), .slice B23_2 (rd_T66 y18 1).f2.length d23_2], .pointer (some (ad13.add 6)), .agg #[.int .i64 ((rd_T66 y18 2).f0), .string ((rd_T66 y18 2).f1), .slice B34_2 (rd_T66 y18 2).f2.length d34_2], .pointer (some (ad13.add 9)), .agg #[.int .i64 ((rd_T66 y18 3).f0), .string ((rd_T66 y18 3).f1), .slice B45_2 (rd_T66 y18 3).f2.length d45_2], .pointer (some (ad13.add 12)), .agg #[.int .i64 ((rd_T66 y18 4).f0), .string ((rd_T66 y18 4).f1), .slice B50_2 (rd_T66 y18 4).f2.length d50_2], .pointer (some (ad13.add 15)), .agg #[.int .i64 ((rd_T66 y18 5).f0), .string ((rd_T66 y18 5).f1), .slice B55_2 (rd_T66 y18 5).f2.length d55_2]) _ (HS.arr [some 0, some 1, some 3, some 2] (by decide)))
     simp only [putAll, Act.put, ptn, c12]
     (try rfl)
 rintro ⟨v17, g8, pe26, pe27, pe31, pe32, pe36, pe37, pe41, pe42, pe46, pe47, pe51, pe52⟩ w58 HS
 obtain ⟨B17, d17, rfl, m17⟩ := HS.form 2 rfl
 have F := HS.boxes; simp only [bxn] at F
 refine norm_ (a' := ?_) ?_ ?_
 rotate_left
 · simp only [putAll, Act.put, ptn, c12]; rfl
 refine done_ (done_of HT.out (by kernel_rfl)) ?_
 replace H := zbind H; obtain ⟨t24, ht24, H⟩ := H
 replace H := zifb H; rcases H with ⟨c26, H⟩ | ⟨c26, H⟩
 case inl =>
  obtain ⟨rfl, rfl⟩ := zsome2 H
  go_wp2_with (first | ((with_reducible refine gd 57 rfl ?_); refine ev_cl HS (impl_AskText.calls ht24.out (HS.rd 2 rfl) m17) Tryz.func7 ?_; clear HS; intro wt24 HS F; (try simp only [c26])) | ((with_reducible refine gate_store (p := 2) rfl ?_); refine ev_st 0 0 HS (seg := [.slice none 0 0, .int .i64 0, .int .i64 0, .int .i64 0, .int .i64 0, .bool false]) ?_; clear HS; intro w27 HS F))
  have HS := HB19 _ _ HS (Nat.le_of_ble_eq_true rfl)
  have HS := HB6 _ _ HS (Nat.le_of_ble_eq_true rfl)
  replace HS := HS.nil 9 Zd.string
  exact bodyPost_ret (results_list (rs := [.cell 2 26, .tmp 3]) rfl (by simp) (.cell _ _ _ _ _ rfl (HS.boxAt (i := 0) rfl) Tryz.underlying26 rfl (by kernel_rfl) (.tmp .nil))) rfl ⟨_, rfl, HS.pick [7] (by decide) (by rfl)⟩
 replace H := znifb H; rcases H with ⟨c29, H⟩ | ⟨c29, H⟩
 case inl =>
  obtain ⟨rfl, rfl⟩ := zsome2 H
  go_wp2_with (first | ((with_reducible refine gd 57 rfl ?_); refine ev_cl HS (impl_AskText.calls ht24.out (HS.rd 2 rfl) m17) Tryz.func7 ?_; clear HS; intro wt24 HS F; (try simp only [c26]); (try simp only [c29])) | ((with_reducible refine gate_store (p := 2) rfl ?_); refine ev_st 0 0 HS (seg := [.slice none 0 0, .int .i64 0, .int .i64 0, .int .i64 0, .int .i64 0, .bool false]) ?_; clear HS; intro w35 HS F))
  have HS := HB19 _ _ HS (Nat.le_of_ble_eq_true rfl)
  have HS := HB6 _ _ HS (Nat.le_of_ble_eq_true rfl)
  replace HS := HS.nil 9 Zd.string
  exact bodyPost_ret (results_list (rs := [.cell 2 26, .tmp 3]) rfl (by simp) (.cell _ _ _ _ _ rfl (HS.boxAt (i := 0) rfl) Tryz.underlying26 rfl (by kernel_rfl) (.tmp .nil))) rfl ⟨_, rfl, HS.pick [7] (by decide) (by rfl)⟩
 go_upto_if 72 with ((with_reducible refine gd 57 rfl ?_); refine ev_cl HS (impl_AskText.calls ht24.out (HS.rd 2 rfl) m17) Tryz.func7 ?_; clear HS; intro wt24 HS F; (try simp only [c26]); (try simp only [c29]))
 replace H := znif' H; rcases H with ⟨c30, H⟩ | ⟨c30, H⟩
 case inl =>
  have c30a := beq_eq_false_iff_ne.mpr c30
  have c30b := bne_iff_ne.mpr c30
  clear c30
  (try simp only [c30a, c30b, dcn])
  obtain ⟨rfl, rfl⟩ := zsome2 H
  go_wp2_with ((with_reducible refine gate_store (p := 2) rfl ?_); refine ev_st 0 0 HS (seg := [.slice none 0 0, .int .i64 0, .int .i64 0, .int .i64 0, .int .i64 0, .bool false]) ?_; clear HS; intro w33 HS F)
  have HS := HB19 _ _ HS (Nat.le_of_ble_eq_true rfl)
  have HS := HB6 _ _ HS (Nat.le_of_ble_eq_true rfl)
  replace HS := HS.nil 9 Zd.string
  exact bodyPost_ret (results_list (rs := [.cell 2 26, .tmp 3]) rfl (by simp) (.cell _ _ _ _ _ rfl (HS.boxAt (i := 0) rfl) Tryz.underlying26 rfl (by kernel_rfl) (.tmp .nil))) rfl ⟨_, rfl, HS.pick [7] (by decide) (by rfl)⟩
 have c30a := beq_iff_eq.mpr c30
 have c30b := bne_eq_false_iff_eq.mpr c30
 clear c30
 (try simp only [c30a, c30b, dcn])
 obtain ⟨rfl, rfl⟩ := zsome2 H
 go_wp2_with ((with_reducible refine gate_store (p := 2) rfl ?_); refine ev_st 0 0 HS (seg := [.slice B17 t14.1.length d17, .int .i64 t25.1, .int .i64 t38.1, .int .i64 t48.1, .int .i64 t53.1, .bool t56.1]) ?_; clear HS; intro w31 HS F)
 have HS := HB19 _ _ HS (Nat.le_of_ble_eq_true rfl)
 have HS := HB6 _ _ HS (Nat.le_of_ble_eq_true rfl)
 exact bodyPost_ret (results_list (rs := [.cell 2 26, .tmp 3]) rfl (by simp) (.cell _ _ _ _ _ rfl (HS.boxAt (i := 0) rfl) Tryz.underlying26 rfl (by kernel_rfl) (.tmp .nil))) rfl ⟨_, rfl, HS.pick [5] (by decide) (by rfl)⟩
def laws_FnAsks.f (k : Nat) (a0 : (List Int)) : Option (Bool) := ((laws_big.f a0).bind fun t1 => (if t1 = true then (some true) else ((spec_DrawAskText.f k a0).bind fun t4 => ((impl_AskText.f k t4).bind fun t11 => ((spec_AskText.f k t4).bind fun t13 => ((impl_ReadAsk.f k t11.1).bind fun t15 => ((spec_DrawReadAsk.f k a0).bind fun t22 => ((impl_ReadAsk.f k t22).bind fun t24 => ((spec_ReadAsk.f k t22).bind fun t31 => ((impl_AskText.f k t24.1).bind fun t38 => (if t11.2 = t13.2 then ((impl_AskOk.f k t4).bind fun t18 => ((spec_AskOk.f k t4).bind fun t19 => (if t18 = t19 then (if t11.2 = true then (if t15.2 = true then ((laws_sameAsk.f k t15.1 t4).bind fun t27 => (if t27 = true then (if t24.2 = t31.2 then (if t24.2 = true then (some (t38.1.toList == t22.toList)) else (some true)) else (some false)) else (some false))) else (some false)) else (if t24.2 = t31.2 then (if t24.2 = true then (some (t38.1.toList == t22.toList)) else (some true)) else (some false))) else (some false)))) else (some false))))))))))))
def laws_FnAsks.T11 : TT := (true, [([], []), ([], []), ([0, 1], [0, 1]), ([2], [2]), ([3], [3]), ([4, 3, 3], [3, 4]), ([3], [3]), ([6, 5, 3], [3, 6]), ([5, 7, 3], [3, 5, 7]), ([3, 8], [3, 8]), ([9, 7], [9]), ([10], [10]), ([11, 10], [10, 11]), ([12, 10, 10], [10, 12]), ([13], [13]), ([14, 13, 13], [13, 14]), ([15], [15]), ([15], [15]), ([16, 17, 15, 15], [15, 16, 17]), ([15, 18, 13], [13, 15, 18]), ([13, 19, 10], [10, 13, 19]), ([10, 20], [10, 20]), ([21, 18], [21]), ([22], [22]), ([22], [22]), ([23, 24, 22], [22, 23, 24]), ([22, 25], [22, 25]), ([26, 22], [26]), ([27], [27]), ([28, 27], [27, 28]), ([29, 27, 27], [27, 29]), ([30], [30]), ([30], [30]), ([31, 32, 30], [30, 31, 32]), ([30, 33, 27], [27, 30, 33]), ([27, 34], [27, 34]), ([35, 30, 0, 1, 2, 3, 4, 5, 6, 7, 8, 9, 10, 11, 12, 13, 14, 15, 16, 17, 18, 19, 20, 21, 22, 23, 24, 25, 26, 27, 28, 29, 30, 31, 32, 33, 34, 35], [35])])
theorem laws_FnAsks.tT11 : rtab .any (opsOf Tryz.f3 11) = laws_FnAsks.T11 := by kernel_rfl
theorem laws_FnAsks.calls {k : Nat} {a0 : (List Int)} {Ap0 : Option Addr} {np0 cp0 : Nat} {r : Bool} {w : World} (h : laws_FnAsks.f k a0 = some r) (gp0 : (Kd.int .u8).C w Ap0 np0 a0) (lp0 : np0 ≤ cp0) :
    Calls Tryz.prog 3 #[.slice Ap0 np0 cp0] w (fun e w' => e = .returned (.bool r) ∧ Hp noFP w w' []) := by
 obtain rfl := C_len gp0
 have HS := Hp.start w
 have H := Aside0.mk h
 clear h
 unfold laws_FnAsks.f at H
 go_enter Tryz.func3, Tryz.ntmps3
 replace H := zbind H; obtain ⟨t1, ht1, H⟩ := H
 go_upto_if 18 with ((with_reducible refine gd 18 rfl ?_); refine ev_cl HS (laws_big.calls ht1.out (HS.ro gp0) lp0) Tryz.func5 ?_; clear HS; intro wt1 HS F)
 replace H := zifb H; rcases H with ⟨c3, H⟩ | ⟨c3, H⟩
 case inl =>
  subst c3
  (try simp only [dcn, dcu, dcf])
  obtain rfl := zsome H
  go_wp2
  go_ret
  exact HS.pk
 subst c3
 (try simp only [dcn, dcu, dcf])
 replace H := zbind H; obtain ⟨t4, ht4, H⟩ := H
 replace H := zbind H; obtain ⟨t11, ht11, H⟩ := H
 replace H := zbind H; obtain ⟨t13, ht13, H⟩ := H
 replace H := zbind H; obtain ⟨t15, ht15, H⟩ := H
 replace H := zbind H; obtain ⟨t22, ht22, H⟩ := H
 replace H := zbind H; obtain ⟨t24, ht24, H⟩ := H
 replace H := zbind H; obtain ⟨t31, ht31, H⟩ := H
 replace H := zbind H; obtain ⟨t38, ht38, H⟩ := H
 go_wp2_with (first | ((with_reducible refine gd 20 rfl ?_); refine ev_cl1 HS (spec_DrawAskText.calls ht4.out (HS.ro gp0) lp0) Tryz.func6 ?_; clear HS; intro v5 wt4 HS F; obtain ⟨B5, d5, rfl, m5⟩ := HS.form 0 rfl) | ((with_reducible refine gd 3 rfl ?_); refine ev_bx HS ?_; clear HS; intro g3 w3 HS F) | ((with_reducible refine gate_store (p := 3) rfl ?_); refine ev_st 1 0 HS (seg := [.slice B5 t4.f0.length d5, .int .i64 t4.f1, .int .i64 t4.f2, .int .i64 t4.f3, .int .i64 t4.f4, .bool t4.f5]) ?_; clear HS; intro w9 HS F) | ((with_reducible refine gd 23 rfl ?_); refine ev_cl HS (impl_AskText.calls ht11.out (HS.rd 0 rfl) m5) Tryz.func7 ?_; clear HS; intro wt11 HS F) | ((with_reducible refine gd 28 rfl ?_); refine ev_cl HS (spec_AskText.calls ht13.out (HS.rd 0 rfl) m5) Tryz.func8 ?_; clear HS; intro wt13 HS F) | ((with_reducible refine gd 33 rfl ?_); refine ev_cl1 HS (impl_ReadAsk.calls ht15.out) Tryz.func9 ?_; clear HS; intro v16 wt15 HS F; obtain ⟨B16, d16, rfl, m16⟩ := HS.form 2 rfl) | ((with_reducible refine gd 8 rfl ?_); refine ev_bx HS ?_; clear HS; intro g8 w8 HS F) | ((with_reducible refine gate_store (p := 8) rfl ?_); refine ev_st 3 0 HS (seg := [.slice B16 t15.1.f0.length d16, .int .i64 t15.1.f1, .int .i64 t15.1.f2, .int .i64 t15.1.f3, .int .i64 t15.1.f4, .bool t15.1.f5]) ?_; clear HS; intro w20 HS F) | ((with_reducible refine gd 37 rfl ?_); refine ev_cl HS (spec_DrawReadAsk.calls ht22.out (HS.ro gp0) lp0) Tryz.func10 ?_; clear HS; intro wt22 HS F) | ((with_reducible refine gd 40 rfl ?_); refine ev_cl1 HS (impl_ReadAsk.calls ht24.out) Tryz.func9 ?_; clear HS; intro v25 wt24 HS F; obtain ⟨B25, d25, rfl, m25⟩ := HS.form 4 rfl) | ((with_reducible refine gd 11 rfl ?_); refine ev_bx HS ?_; clear HS; intro g11 w11 HS F) | ((with_reducible refine gate_store (p := 11) rfl ?_); refine ev_st 5 0 HS (seg := [.slice B25 t24.1.f0.length d25, .int .i64 t24.1.f1, .int .i64 t24.1.f2, .int .i64 t24.1.f3, .int .i64 t24.1.f4, .bool t24.1.f5]) ?_; clear HS; intro w29 HS F) | ((with_reducible refine gd 45 rfl ?_); refine ev_cl1 HS (spec_ReadAsk.calls ht31.out) Tryz.func11 ?_; clear HS; intro v32 wt31 HS F; obtain ⟨B32, d32, rfl, m32⟩ := HS.form 6 rfl) | ((with_reducible refine gd 13 rfl ?_); refine ev_bx HS ?_; clear HS; intro g13 w13 HS F) | ((with_reducible refine gate_store (p := 13) rfl ?_); refine ev_st 7 0 HS (seg := [.slice B32 t31.1.f0.length d32, .int .i64 t31.1.f1, .int .i64 t31.1.f2, .int .i64 t31.1.f3, .int .i64 t31.1.f4, .bool t31.1.f5]) ?_; clear HS; intro w36 HS F) | ((with_reducible refine gd 50 rfl ?_); refine ev_cl HS (impl_AskText.calls ht38.out (HS.rd 4 rfl) m25) Tryz.func7 ?_; clear HS; intro wt38 HS F))
 replace H := znif' H; rcases H with ⟨c17, H⟩ | ⟨c17, H⟩
 case inl =>
  have c17a := beq_eq_false_iff_ne.mpr c17
  have c17b := bne_iff_ne.mpr c17
  clear c17
  refine dr_start [] HS #[false, false, false, false, false, false, false, false, false, false, false, false, false, false, false, false, false, false, false, false, false, false, false, false, false, false, false, false, false, false, false, false, false, false, false, false, false] (by kernel_rfl) rfl rfl laws_FnAsks.tT11 (fun w59 HT HS HH => ?_)
  (try clear F)
  refine drq_of [(0, some 53), (1, some 54), (2, some 55), (3, some 56), (4, some 57), (5, some 58), (6, some 59), (7, some 60), (8, some 61), (9, some 62), (10, some 63), (11, some 64), (12, some 65), (13, some 66), (14, some 67), (15, some 68), (16, some 69), (17, some 70), (18, some 71), (19, some 72), (20, some 73), (21, some 74), (22, some 75), (23, some 76), (24, some 77), (25, some 78), (26, some 79), (27, some 80), (28, some 81), (29, some 82), (30, some 83), (31, some 84), (32, some 85), (33, some 86), (34, some 87), (35, some 88), (36, some 2)] ?_
  repeat (first | refine drp HT ?_ | (refine drq_pure HT (v := undef) (a' := ?_) rfl rfl (by kernel_rfl) (fun _ _ _ h => h) (.inr ⟨by rfl, rfl⟩) ?_ ?_; rotate_left; (simp only [Act.put, ptn]; rfl)))
  refine drq_end ?_
  refine done_ (done_of HT.out (by kernel_rfl)) ?_
  (try clear F)
  have F := HS.boxes; simp only [bxn] at F
  obtain rfl := zsome H
  go_wp2
  go_ret
  exact HS.pk
 have c17a := beq_iff_eq.mpr c17
 have c17b := bne_eq_false_iff_eq.mpr c17
 clear c17
 replace H := zbind H; obtain ⟨t18, ht18, H⟩ := H
 replace H := zbind H; obtain ⟨t19, ht19, H⟩ := H
 replace H := znif' H; rcases H with ⟨c21, H⟩ | ⟨c21, H⟩
 case inl =>
  have c21a := beq_eq_false_iff_ne.mpr c21
  have c21b := bne_iff_ne.mpr c21
  clear c21
  refine dr_start [] HS #[false, false, false, false, false, false, false, false, false, false, false, false, false, false, false, false, false, false, false, false, false, false, false, false, false, false, false, false, false, false, false, false, false, false, false, false, false] (by kernel_rfl) rfl rfl laws_FnAsks.tT11 (fun w57 HT HS HH => ?_)
  (try clear F)
  refine drq_of [(0, some 53), (1, some 54), (2, some 55), (3, some 56), (4, some 57), (6, some 59)] ?_
  repeat (first | refine drp HT ?_ | refine drt HT HH ?_)
  refine drq_end ?_
  refine dr1 5 HT fun K hK => ?_
  refine go_cl HS (impl_AskOk.calls ht18.out (HS.rd 0 rfl) m5) Tryz.func12 ?_; clear HS; intro wt18 HS F
  refine nrm 58 hK ⟨_, HS⟩ (fun HH => ?_); clear hK K
  refine dr1 7 HT fun K hK => ?_
  refine go_cl HS (spec_AskOk.calls ht19.out (HS.rd 0 rfl) m5) Tryz.func13 ?_; clear HS; intro wt19 HS F
  refine nrm 60 hK ⟨_, HS⟩ (fun HH => ?_); clear hK K
  refine drq_of [(8, some 61), (9, some 62), (10, some 63), (11, some 64), (12, some 65), (13, some 66), (14, some 67), (15, some 68), (16, some 69), (17, some 70), (18, some 71), (19, some 72), (20, some 73), (21, some 74), (22, some 75), (23, some 76), (24, some 77), (25, some 78), (26, some 79), (27, some 80), (28, some 81), (29, some 82), (30, some 83), (31, some 84), (32, some 85), (33, some 86), (34, some 87), (35, some 88), (36, some 2)] ?_
  repeat (first | refine drp HT ?_ | (refine drq_pure HT (v := undef) (a' := ?_) rfl rfl (by kernel_rfl) (fun _ _ _ h => h) (.inr ⟨by rfl, rfl⟩) ?_ ?_; rotate_left; (simp only [Act.put, ptn]; rfl)))
  refine drq_end ?_
  refine done_ (done_of HT.out (by kernel_rfl)) ?_
  (try clear F)
  have F := HS.boxes; simp only [bxn] at F
  obtain rfl := zsome H
  go_wp2
  go_ret
  exact HS.pk
 have c21a := beq_iff_eq.mpr c21
 have c21b := bne_eq_false_iff_eq.mpr c21
 clear c21
 replace H := znifb H; rcases H with ⟨c23, H⟩ | ⟨c23, H⟩
 case inl =>
  have c23q0 := (beq_iff_eq.mp c17a).symm.trans c23
  replace H := znif' H; rcases H with ⟨c30, H⟩ | ⟨c30, H⟩
  case inl =>
   have c30a := beq_eq_false_iff_ne.mpr c30
   have c30b := bne_iff_ne.mpr c30
   clear c30
   refine dr_start [] HS #[false, false, false, false, false, false, false, false, false, false, false, false, false, false, false, false, false, false, false, false, false, false, false, false, false, false, false, false, false, false, false, false, false, false, false, false, false] (by kernel_rfl) rfl rfl laws_FnAsks.tT11 (fun w55 HT HS HH => ?_)
   (try clear F)
   refine drq_of [(0, some 53), (1, some 54), (2, some 55), (3, some 56), (4, some 57), (6, some 59)] ?_
   repeat (first | refine drp HT ?_ | refine drt HT HH ?_)
   refine drq_end ?_
   refine dr1 5 HT fun K hK => ?_
   refine go_cl HS (impl_AskOk.calls ht18.out (HS.rd 0 rfl) m5) Tryz.func12 ?_; clear HS; intro wt18 HS F
   refine hK.out _ _ ⟨_, HS⟩ (fun HH => ?_)
   clear hK K
   refine norm_ (a' := ?_) ?_ ?_
   rotate_left
   · show Act.put _ (some 58) _ = _; simp only [Act.put, ptn, c23]; rfl
   refine dr1 7 HT fun K hK => ?_
   refine go_cl HS (spec_AskOk.calls ht19.out (HS.rd 0 rfl) m5) Tryz.func13 ?_; clear HS; intro wt19 HS F
   refine hK.out _ _ ⟨_, HS⟩ (fun HH => ?_)
   clear hK K
   refine norm_ (a' := ?_) ?_ ?_
   rotate_left
   · show Act.put _ (some 60) _ = _; simp only [Act.put, ptn, c23]; rfl
   refine drq_of [(8, some 61), (9, some 62), (10, some 63), (11, some 64), (12, some 65), (13, some 66), (14, some 67), (15, some 68), (16, some 69), (17, some 70), (18, some 71), (19, some 72), (20, some 73), (21, some 74), (22, some 75), (23, some 76), (24, some 77), (25, some 78), (26, some 79), (27, some 80), (28, some 81), (29, some 82), (30, some 83), (31, some 84), (32, some 85), (33, some 86), (34, some 87), (35, some 88), (36, some 2)] ?_
   repeat (first | refine drp HT ?_ | (refine drq_pure HT (v := undef) (a' := ?_) rfl rfl (by kernel_rfl) (fun _ _ _ h => h) (.inr ⟨by rfl, rfl⟩) ?_ ?_; rotate_left; (simp only [Act.put, ptn]; rfl)))
   refine drq_end ?_
   refine done_ (done_of HT.out (by kernel_rfl)) ?_
   (try clear F)
   have F := HS.boxes; simp only [bxn] at F
   obtain rfl := zsome H
   go_wp2
   go_ret
   exact HS.pk
  have c30a := beq_iff_eq.mpr c30
  have c30b := bne_eq_false_iff_eq.mpr c30
  clear c30
  replace H := znifb H; rcases H with ⟨c33, H⟩ | ⟨c33, H⟩
  case inl =>
   have c33q2 := (beq_iff_eq.mp c30a).symm.trans c33
   refine dr_start [] HS #[false, false, false, false, false, false, false, false, false, false, false, false, false, false, false, false, false, false, false, false, false, false, false, false, false, false, false, false, false, false, false, false, false, false, false, false, false] (by kernel_rfl) rfl rfl laws_FnAsks.tT11 (fun w53 HT HS HH => ?_)
   (try clear F)
   refine drq_of [(0, some 53), (1, some 54), (2, some 55), (3, some 56), (4, some 57), (6, some 59)] ?_
   repeat (first | refine drp HT ?_ | refine drt HT HH ?_)
   refine drq_end ?_
   refine dr1 5 HT fun K hK => ?_
   refine go_cl HS (impl_AskOk.calls ht18.out (HS.rd 0 rfl) m5) Tryz.func12 ?_; clear HS; intro wt18 HS F
   refine hK.out _ _ ⟨_, HS⟩ (fun HH => ?_)
   clear hK K
   refine norm_ (a' := ?_) ?_ ?_
   rotate_left
   · show Act.put _ (some 58) _ = _; simp only [Act.put, ptn, c23, c33]; rfl
   refine dr1 7 HT fun K hK => ?_
   refine go_cl HS (spec_AskOk.calls ht19.out (HS.rd 0 rfl) m5) Tryz.func13 ?_; clear HS; intro wt19 HS F
   refine hK.out _ _ ⟨_, HS⟩ (fun HH => ?_)
   clear hK K
   refine norm_ (a' := ?_) ?_ ?_
   rotate_left
   · show Act.put _ (some 60) _ = _; simp only [Act.put, ptn, c23, c33]; rfl
   refine drq_of [(8, some 61), (9, some 62), (10, some 63), (11, some 64), (12, some 65), (13, some 66), (14, some 67), (15, some 68), (16, some 69), (17, some 70), (18, some 71), (19, some 72), (20, some 73), (21, some 74), (22, some 75), (23, some 76), (24, some 77), (25, some 78), (26, some 79), (27, some 80), (28, some 81), (29, some 82), (30, some 83), (31, some 84), (32, some 85), (33, some 86), (34, some 87), (35, some 88), (36, some 2)] ?_
   repeat (first | refine drp HT ?_ | (refine drq_pure HT (v := undef) (a' := ?_) rfl rfl (by kernel_rfl) (fun _ _ _ h => h) (.inr ⟨by rfl, rfl⟩) ?_ ?_; rotate_left; (simp only [Act.put, ptn]; rfl)))
   refine drq_end ?_
   refine done_ (done_of HT.out (by kernel_rfl)) ?_
   (try clear F)
   have F := HS.boxes; simp only [bxn] at F
   obtain rfl := zsome H
   go_wp2
   go_ret
   exact HS.pk
  have c33q2 := (beq_iff_eq.mp c30a).symm.trans c33
  refine dr_start [] HS #[false, false, false, false, false, false, false, false, false, false, false, false, false, false, false, false, false, false, false, false, false, false, false, false, false, false, false, false, false, false, false, false, false, false, false, false, false] (by kernel_rfl) rfl rfl laws_FnAsks.tT11 (fun w51 HT HS HH => ?_)
  (try clear F)
  refine drq_of [(0, some 53), (1, some 54), (2, some 55), (3, some 56), (4, some 57), (6, some 59)] ?_
  repeat (first | refine drp HT ?_ | refine drt HT HH ?_)
  refine drq_end ?_
  refine dr1 5 HT fun K hK => ?_
  refine go_cl HS (impl_AskOk.calls ht18.out (HS.rd 0 rfl) m5) Tryz.func12 ?_; clear HS; intro wt18 HS F
  refine hK.out _ _ ⟨_, HS⟩ (fun HH => ?_)
  clear hK K
  refine norm_ (a' := ?_) ?_ ?_
  rotate_left
  · show Act.put _ (some 58) _ = _; simp only [Act.put, ptn, c23, c33]; rfl
  refine dr1 7 HT fun K hK => ?_
  refine go_cl HS (spec_AskOk.calls ht19.out (HS.rd 0 rfl) m5) Tryz.func13 ?_; clear HS; intro wt19 HS F
  refine hK.out _ _ ⟨_, HS⟩ (fun HH => ?_)
  clear hK K
  refine norm_ (a' := ?_) ?_ ?_
  rotate_left
  · show Act.put _ (some 60) _ = _; simp only [Act.put, ptn, c23, c33]; rfl
  refine drq_of [(8, some 61), (9, some 62), (10, some 63), (11, some 64), (12, some 65), (13, some 66), (14, some 67), (15, some 68), (16, some 69), (17, some 70), (18, some 71), (19, some 72), (20, some 73), (21, some 74), (22, some 75), (23, some 76), (24, some 77), (25, some 78), (26, some 79), (27, some 80), (28, some 81), (29, some 82), (30, some 83), (31, some 84), (32, some 85), (33, some 86), (34, some 87), (35, some 88), (36, some 2)] ?_
  repeat (first | refine drp HT ?_ | (refine drq_pure HT (v := undef) (a' := ?_) rfl rfl (by kernel_rfl) (fun _ _ _ h => h) (.inr ⟨by rfl, rfl⟩) ?_ ?_; rotate_left; (simp only [Act.put, ptn]; rfl)))
  refine drq_end ?_
  refine done_ (done_of HT.out (by kernel_rfl)) ?_
  (try clear F)
  have F := HS.boxes; simp only [bxn] at F
  obtain rfl := zsome H
  go_wp2
  go_ret
  exact HS.pk
 have c23q0 := (beq_iff_eq.mp c17a).symm.trans c23
 replace H := znifb H; rcases H with ⟨c26, H⟩ | ⟨c26, H⟩
 case inl =>
  refine dr_start [] HS #[false, false, false, false, false, false, false, false, false, false, false, false, false, false, false, false, false, false, false, false, false, false, false, false, false, false, false, false, false, false, false, false, false, false, false, false, false] (by kernel_rfl) rfl rfl laws_FnAsks.tT11 (fun w49 HT HS HH => ?_)
  (try clear F)
  refine drq_of [(0, some 53), (1, some 54), (2, some 55), (3, some 56), (4, some 57), (6, some 59)] ?_
  repeat (first | refine drp HT ?_ | refine drt HT HH ?_)
  refine drq_end ?_
  refine dr1 5 HT fun K hK => ?_
  refine go_cl HS (impl_AskOk.calls ht18.out (HS.rd 0 rfl) m5) Tryz.func12 ?_; clear HS; intro wt18 HS F
  refine hK.out _ _ ⟨_, HS⟩ (fun HH => ?_)
  clear hK K
  refine norm_ (a' := ?_) ?_ ?_
  rotate_left
  · show Act.put _ (some 58) _ = _; simp only [Act.put, ptn, c23, c26]; rfl
  refine dr1 7 HT fun K hK => ?_
  refine go_cl HS (spec_AskOk.calls ht19.out (HS.rd 0 rfl) m5) Tryz.func13 ?_; clear HS; intro wt19 HS F
  refine hK.out _ _ ⟨_, HS⟩ (fun HH => ?_)
  clear hK K
  refine norm_ (a' := ?_) ?_ ?_
  rotate_left
  · show Act.put _ (some 60) _ = _; simp only [Act.put, ptn, c23, c26]; rfl
  refine drq_of [(8, some 61), (9, some 62), (10, some 63), (11, some 64), (12, some 65), (13, some 66), (14, some 67), (15, some 68), (16, some 69), (17, some 70), (18, some 71), (19, some 72), (20, some 73), (21, some 74), (22, some 75), (23, some 76), (24, some 77), (25, some 78), (26, some 79), (27, some 80), (28, some 81), (29, some 82), (30, some 83), (31, some 84), (32, some 85), (33, some 86), (34, some 87), (35, some 88), (36, some 2)] ?_
  repeat (first | refine drp HT ?_ | (refine drq_pure HT (v := undef) (a' := ?_) rfl rfl (by kernel_rfl) (fun _ _ _ h => h) (.inr ⟨by rfl, rfl⟩) ?_ ?_; rotate_left; (simp only [Act.put, ptn]; rfl)))
  refine drq_end ?_
  refine done_ (done_of HT.out (by kernel_rfl)) ?_
  (try clear F)
  have F := HS.boxes; simp only [bxn] at F
  obtain rfl := zsome H
  go_wp2
  go_ret
  exact HS.pk
 replace H := zbind H; obtain ⟨t27, ht27, H⟩ := H
 replace H := znifb H; rcases H with ⟨c28, H⟩ | ⟨c28, H⟩
 case inl =>
  subst c28
  refine dr_start [] HS #[false, false, false, false, false, false, false, false, false, false, false, false, false, false, false, false, false, false, false, false, false, false, false, false, false, false, false, false, false, false, false, false, false, false, false, false, false] (by kernel_rfl) rfl rfl laws_FnAsks.tT11 (fun w47 HT HS HH => ?_)
  (try clear F)
  refine drq_of [(0, some 53), (1, some 54), (2, some 55), (3, some 56), (4, some 57), (6, some 59)] ?_
  repeat (first | refine drp HT ?_ | refine drt HT HH ?_)
  refine drq_end ?_
  refine dr1 5 HT fun K hK => ?_
  refine go_cl HS (impl_AskOk.calls ht18.out (HS.rd 0 rfl) m5) Tryz.func12 ?_; clear HS; intro wt18 HS F
  refine hK.out _ _ ⟨_, HS⟩ (fun HH => ?_)
  clear hK K
  refine norm_ (a' := ?_) ?_ ?_
  rotate_left
  · show Act.put _ (some 58) _ = _; simp only [Act.put, ptn, c23, c26]; rfl
  refine dr1 7 HT fun K hK => ?_
  refine go_cl HS (spec_AskOk.calls ht19.out (HS.rd 0 rfl) m5) Tryz.func13 ?_; clear HS; intro wt19 HS F
  refine hK.out _ _ ⟨_, HS⟩ (fun HH => ?_)
  clear hK K
  refine norm_ (a' := ?_) ?_ ?_
  rotate_left
  · show Act.put _ (some 60) _ = _; simp only [Act.put, ptn, c23, c26]; rfl
  refine drq_of [(8, some 61), (9, some 62), (10, some 63), (11, some 64), (12, some 65), (13, some 66), (14, some 67), (15, some 68), (16, some 69), (17, some 70)] ?_
  repeat (first | refine drp HT ?_ | refine drt HT HH ?_)
  refine drq_end ?_
  refine dr1 18 HT fun K hK => ?_
  refine go_cl HS (laws_sameAsk.calls ht27.out (HS.rd 2 rfl) m16 (HS.rd 0 rfl) m5) Tryz.func14 ?_; clear HS; intro wt27 HS F
  refine hK.out _ _ ⟨_, HS⟩ (fun HH => ?_)
  clear hK K
  refine norm_ (a' := ?_) ?_ ?_
  rotate_left
  · show Act.put _ (some 71) _ = _; simp only [Act.put, ptn, c23, c26]; rfl
  refine drq_of [(19, some 72), (20, some 73), (21, some 74), (22, some 75), (23, some 76), (24, some 77), (25, some 78), (26, some 79), (27, some 80), (28, some 81), (29, some 82), (30, some 83), (31, some 84), (32, some 85), (33, some 86), (34, some 87), (35, some 88), (36, some 2)] ?_
  repeat (first | refine drp HT ?_ | (refine drq_pure HT (v := undef) (a' := ?_) rfl rfl (by kernel_rfl) (fun _ _ _ h => h) (.inr ⟨by rfl, rfl⟩) ?_ ?_; rotate_left; (simp only [Act.put, ptn]; rfl)))
  refine drq_end ?_
  refine done_ (done_of HT.out (by kernel_rfl)) ?_
  (try clear F)
  have F := HS.boxes; simp only [bxn] at F
  obtain rfl := zsome H
  go_wp2
  go_ret
  exact HS.pk
 subst c28
 replace H := znif' H; rcases H with ⟨c30, H⟩ | ⟨c30, H⟩
 case inl =>
  have c30a := beq_eq_false_iff_ne.mpr c30
  have c30b := bne_iff_ne.mpr c30
  clear c30
  refine dr_start [] HS #[false, false, false, false, false, false, false, false, false, false, false, false, false, false, false, false, false, false, false, false, false, false, false, false, false, false, false, false, false, false, false, false, false, false, false, false, false] (by kernel_rfl) rfl rfl laws_FnAsks.tT11 (fun w45 HT HS HH => ?_)
  (try clear F)
  refine drq_of [(0, some 53), (1, some 54), (2, some 55), (3, some 56), (4, some 57), (6, some 59)] ?_
  repeat (first | refine drp HT ?_ | refine drt HT HH ?_)
  refine drq_end ?_
  refine dr1 5 HT fun K hK => ?_
  refine go_cl HS (impl_AskOk.calls ht18.out (HS.rd 0 rfl) m5) Tryz.func12 ?_; clear HS; intro wt18 HS F
  refine hK.out _ _ ⟨_, HS⟩ (fun HH => ?_)
  clear hK K
  refine norm_ (a' := ?_) ?_ ?_
  rotate_left
  · show Act.put _ (some 58) _ = _; simp only [Act.put, ptn, c23, c26]; rfl
  refine dr1 7 HT fun K hK => ?_
  refine go_cl HS (spec_AskOk.calls ht19.out (HS.rd 0 rfl) m5) Tryz.func13 ?_; clear HS; intro wt19 HS F
  refine hK.out _ _ ⟨_, HS⟩ (fun HH => ?_)
  clear hK K
  refine norm_ (a' := ?_) ?_ ?_
  rotate_left
  · show Act.put _ (some 60) _ = _; simp only [Act.put, ptn, c23, c26]; rfl
  refine drq_of [(8, some 61), (9, some 62), (10, some 63), (11, some 64), (12, some 65), (13, some 66), (14, some 67), (15, some 68), (16, some 69), (17, some 70)] ?_
  repeat (first | refine drp HT ?_ | refine drt HT HH ?_)
  refine drq_end ?_
  refine dr1 18 HT fun K hK => ?_
  refine go_cl HS (laws_sameAsk.calls ht27.out (HS.rd 2 rfl) m16 (HS.rd 0 rfl) m5) Tryz.func14 ?_; clear HS; intro wt27 HS F
  refine hK.out _ _ ⟨_, HS⟩ (fun HH => ?_)
  clear hK K
  refine norm_ (a' := ?_) ?_ ?_
  rotate_left
  · show Act.put _ (some 71) _ = _; simp only [Act.put, ptn, c23, c26]; rfl
  refine drq_of [(19, some 72), (20, some 73), (21, some 74), (22, some 75), (23, some 76), (24, some 77), (25, some 78), (26, some 79), (27, some 80), (28, some 81), (29, some 82), (30, some 83), (31, some 84), (32, some 85), (33, some 86), (34, some 87), (35, some 88), (36, some 2)] ?_
  repeat (first | refine drp HT ?_ | (refine drq_pure HT (v := undef) (a' := ?_) rfl rfl (by kernel_rfl) (fun _ _ _ h => h) (.inr ⟨by rfl, rfl⟩) ?_ ?_; rotate_left; (simp only [Act.put, ptn]; rfl)))
  refine drq_end ?_
  refine done_ (done_of HT.out (by kernel_rfl)) ?_
  (try clear F)
  have F := HS.boxes; simp only [bxn] at F
  obtain rfl := zsome H
  go_wp2
  go_ret
  exact HS.pk
 have c30a := beq_iff_eq.mpr c30
 have c30b := bne_eq_false_iff_eq.mpr c30
 clear c30
 replace H := znifb H; rcases H with ⟨c33, H⟩ | ⟨c33, H⟩
 case inl =>
  have c33q2 := (beq_iff_eq.mp c30a).symm.trans c33
  refine dr_start [] HS #[false, false, false, false, false, false, false, false, false, false, false, false, false, false, false, false, false, false, false, false, false, false, false, false, false, false, false, false, false, false, false, false, false, false, false, false, false] (by kernel_rfl) rfl rfl laws_FnAsks.tT11 (fun w43 HT HS HH => ?_)
  (try clear F)
  refine drq_of [(0, some 53), (1, some 54), (2, some 55), (3, some 56), (4, some 57), (6, some 59)] ?_
  repeat (first | refine drp HT ?_ | refine drt HT HH ?_)
  refine drq_end ?_
  refine dr1 5 HT fun K hK => ?_
  refine go_cl HS (impl_AskOk.calls ht18.out (HS.rd 0 rfl) m5) Tryz.func12 ?_; clear HS; intro wt18 HS F
  refine hK.out _ _ ⟨_, HS⟩ (fun HH => ?_)
  clear hK K
  refine norm_ (a' := ?_) ?_ ?_
  rotate_left
  · show Act.put _ (some 58) _ = _; simp only [Act.put, ptn, c23, c26, c33]; rfl
  refine dr1 7 HT fun K hK => ?_
  refine go_cl HS (spec_AskOk.calls ht19.out (HS.rd 0 rfl) m5) Tryz.func13 ?_; clear HS; intro wt19 HS F
  refine hK.out _ _ ⟨_, HS⟩ (fun HH => ?_)
  clear hK K
  refine norm_ (a' := ?_) ?_ ?_
  rotate_left
  · show Act.put _ (some 60) _ = _; simp only [Act.put, ptn, c23, c26, c33]; rfl
  refine drq_of [(8, some 61), (9, some 62), (10, some 63), (11, some 64), (12, some 65), (13, some 66), (14, some 67), (15, some 68), (16, some 69), (17, some 70)] ?_
  repeat (first | refine drp HT ?_ | refine drt HT HH ?_)
  refine drq_end ?_
  refine dr1 18 HT fun K hK => ?_
  refine go_cl HS (laws_sameAsk.calls ht27.out (HS.rd 2 rfl) m16 (HS.rd 0 rfl) m5) Tryz.func14 ?_; clear HS; intro wt27 HS F
  refine hK.out _ _ ⟨_, HS⟩ (fun HH => ?_)
  clear hK K
  refine norm_ (a' := ?_) ?_ ?_
  rotate_left
  · show Act.put _ (some 71) _ = _; simp only [Act.put, ptn, c23, c26, c33]; rfl
  refine drq_of [(19, some 72), (20, some 73), (21, some 74), (22, some 75), (23, some 76), (24, some 77), (25, some 78), (26, some 79), (27, some 80), (28, some 81), (29, some 82), (30, some 83), (31, some 84), (32, some 85), (33, some 86), (34, some 87), (35, some 88), (36, some 2)] ?_
  repeat (first | refine drp HT ?_ | (refine drq_pure HT (v := undef) (a' := ?_) rfl rfl (by kernel_rfl) (fun _ _ _ h => h) (.inr ⟨by rfl, rfl⟩) ?_ ?_; rotate_left; (simp only [Act.put, ptn]; rfl)))
  refine drq_end ?_
  refine done_ (done_of HT.out (by kernel_rfl)) ?_
  (try clear F)
  have F := HS.boxes; simp only [bxn] at F
  obtain rfl := zsome H
  go_wp2
  go_ret
  exact HS.pk
 have c33q2 := (beq_iff_eq.mp c30a).symm.trans c33
 refine dr_start [] HS #[false, false, false, false, false, false, false, false, false, false, false, false, false, false, false, false, false, false, false, false, false, false, false, false, false, false, false, false, false, false, false, false, false, false, false, false, false] (by kernel_rfl) rfl rfl laws_FnAsks.tT11 (fun w41 HT HS HH => ?_)
 (try clear F)
 refine drq_of [(0, some 53), (1, some 54), (2, some 55), (3, some 56), (4, some 57), (6, some 59)] ?_
 repeat (first | refine drp HT ?_ | refine drt HT HH ?_)
 refine drq_end ?_
 refine dr1 5 HT fun K hK => ?_
 refine go_cl HS (impl_AskOk.calls ht18.out (HS.rd 0 rfl) m5) Tryz.func12 ?_; clear HS; intro wt18 HS F
 refine hK.out _ _ ⟨_, HS⟩ (fun HH => ?_)
 clear hK K
 refine norm_ (a' := ?_) ?_ ?_
 rotate_left
 · show Act.put _ (some 58) _ = _; simp only [Act.put, ptn, c23, c26, c33]; rfl
 refine dr1 7 HT fun K hK => ?_
 refine go_cl HS (spec_AskOk.calls ht19.out (HS.rd 0 rfl) m5) Tryz.func13 ?_; clear HS; intro wt19 HS F
 refine hK.out _ _ ⟨_, HS⟩ (fun HH => ?_)
 clear hK K
 refine norm_ (a' := ?_) ?_ ?_
 rotate_left
 · show Act.put _ (some 60) _ = _; simp only [Act.put, ptn, c23, c26, c33]; rfl
 refine drq_of [(8, some 61), (9, some 62), (10, some 63), (11, some 64), (12, some 65), (13, some 66), (14, some 67), (15, some 68), (16, some 69), (17, some 70)] ?_
 repeat (first | refine drp HT ?_ | refine drt HT HH ?_)
 refine drq_end ?_
 refine dr1 18 HT fun K hK => ?_
 refine go_cl HS (laws_sameAsk.calls ht27.out (HS.rd 2 rfl) m16 (HS.rd 0 rfl) m5) Tryz.func14 ?_; clear HS; intro wt27 HS F
 refine hK.out _ _ ⟨_, HS⟩ (fun HH => ?_)
 clear hK K
 refine norm_ (a' := ?_) ?_ ?_
 rotate_left
 · show Act.put _ (some 71) _ = _; simp only [Act.put, ptn, c23, c26, c33]; rfl
 refine drq_of [(19, some 72), (20, some 73), (21, some 74), (22, some 75), (23, some 76), (24, some 77), (25, some 78), (26, some 79), (27, some 80), (28, some 81), (29, some 82), (30, some 83), (31, some 84), (32, some 85), (33, some 86), (34, some 87), (35, some 88), (36, some 2)] ?_
 repeat (refine drp HT ?_)
 refine drq_end ?_
 refine done_ (done_of HT.out (by kernel_rfl)) ?_
 (try clear F)
 have F := HS.boxes; simp only [bxn] at F
 obtain rfl := zsome H
 go_wp2
 go_ret
 exact HS.pk
end Go.Proofs.YtfcpjeeeddjakaaGreat.F
