/- Functions of the program and of the law, and that their calls do what is written here. -/
import Derived.Test.YtoaoncnbimcdgaaDoorZgFnExactReadCertm
import Derived.Test.YtoaoncnbimcdgaaDoorZgFnExactReadCertn
import Derived.Test.YtoaoncnbimcdgaaDoorZgFnExactReadCerto
namespace Go.Proofs.YtoaoncnbimcdgaaDoor.F
open Go.RowKit Go.Proofs.YtoaoncnbimcdgaaDoorW.PrintWords Go.Proofs.YtoaoncnbimcdgaaDoorW.PrintLast Go.Proofs.YtoaoncnbimcdgaaDoorW.PrintMore Go.Proofs.YtoaoncnbimcdgaaDoor.Z
attribute [local go_sem] max2_int min2_int max_two min_two max_three min_three max_four min_four
set_option linter.unusedVariables false
set_option linter.unusedSimpArgs false
set_option maxRecDepth 100000
/-! ### impl_ReadCert: function 29 -/
def impl_ReadCert.f (k : Nat) (a0 : ByteArray) : Option (S29 × Bool) := ((impl_ReadItem.f k a0).bind fun t3 => (if t3.2 = true then ((impl_opener_list_0.f (⟨false⟩ : S86) t3.1 2).bind fun t15 => (lets (cond t15.1.1 t3.1.f2 (List.replicate t15.1.2 z65)) fun y18 => (if 0 < (y18.length : Int) then ((impl_opener_list_0.f t15.2 (rd_T65 y18 0) 11).bind fun t23 => (lets (cond t23.1.1 ((rd_T65 y18 0).f2) (List.replicate t23.1.2 z65)) fun y26 => (if 2 < (y26.length : Int) then ((impl_opener_list_0.f t23.2 (rd_T65 y26 2) 2).bind fun t31 => (lets (cond t31.1.1 ((rd_T65 y26 2).f2) (List.replicate t31.1.2 z65)) fun y34 => (if 0 < (y26.length : Int) then ((impl_opener_num_0.f k t31.2 (rd_T65 y26 0)).bind fun t104001 => (if 1 < (y26.length : Int) then ((impl_opener_text_0.f t104001.2 (rd_T65 y26 1) 12).bind fun t109001 => (if 0 < (y34.length : Int) then ((impl_opener_num_0.f k t109001.2 (rd_T65 y34 0)).bind fun t114001 => (if 1 < (y34.length : Int) then ((impl_opener_num_0.f k t114001.2 (rd_T65 y34 1)).bind fun t119001 => (if 3 < (y26.length : Int) then ((impl_opener_text_0.f t119001.2 (rd_T65 y26 3) 12).bind fun t124001 => (if 4 < (y26.length : Int) then ((impl_opener_text_0.f t124001.2 (rd_T65 y26 4) 4).bind fun t129001 => (if 5 < (y26.length : Int) then ((impl_opener_flag_0.f t129001.2 (rd_T65 y26 5)).bind fun t134001 => (if 6 < (y26.length : Int) then ((impl_opener_num_0.f k t134001.2 (rd_T65 y26 6)).bind fun t139001 => (if 7 < (y26.length : Int) then ((impl_opener_num_0.f k t139001.2 (rd_T65 y26 7)).bind fun t144001 => (if 8 < (y26.length : Int) then ((impl_opener_nums_0.f k t144001.2 (rd_T65 y26 8)).bind fun t42 => (if 9 < (y26.length : Int) then ((impl_opener_texts_0.f k t42.2 (rd_T65 y26 9) 12).bind fun t204001 => (if 10 < (y26.length : Int) then ((impl_opener_texts_0.f k t204001.2 (rd_T65 y26 10) 12).bind fun t209001 => (if 1 < (y18.length : Int) then ((impl_opener_text_0.f t209001.2 (rd_T65 y18 1) 4).bind fun t52 => ((impl_CertText.f k (⟨t104001.1, t109001.1, t124001.1, t114001.1, t119001.1, t129001.1, t134001.1, t139001.1, t144001.1, t42.1, t204001.1, t209001.1, t52.1⟩ : S29)).bind fun t56 => (if t52.2.f0 = true then (some ((⟨0, (⟨#[]⟩ : ByteArray), (⟨#[]⟩ : ByteArray), 0, 0, (⟨#[]⟩ : ByteArray), false, 0, 0, ([] : List Int), ([] : List ByteArray), ([] : List ByteArray), (⟨#[]⟩ : ByteArray)⟩ : S29), false)) else (if t56.2 = true then (if t56.1.toList = a0.toList then (some ((⟨t104001.1, t109001.1, t124001.1, t114001.1, t119001.1, t129001.1, t134001.1, t139001.1, t144001.1, t42.1, t204001.1, t209001.1, t52.1⟩ : S29), true)) else (some ((⟨0, (⟨#[]⟩ : ByteArray), (⟨#[]⟩ : ByteArray), 0, 0, (⟨#[]⟩ : ByteArray), false, 0, 0, ([] : List Int), ([] : List ByteArray), ([] : List ByteArray), (⟨#[]⟩ : ByteArray)⟩ : S29), false))) else (some ((⟨0, (⟨#[]⟩ : ByteArray), (⟨#[]⟩ : ByteArray), 0, 0, (⟨#[]⟩ : ByteArray), false, 0, 0, ([] : List Int), ([] : List ByteArray), ([] : List ByteArray), (⟨#[]⟩ : ByteArray)⟩ : S29), false)))))) else none)) else none)) else none)) else none)) else none)) else none)) else none)) else none)) else none)) else none)) else none)) else none)) else none))) else none))) else none))) else (some ((⟨0, (⟨#[]⟩ : ByteArray), (⟨#[]⟩ : ByteArray), 0, 0, (⟨#[]⟩ : ByteArray), false, 0, 0, ([] : List Int), ([] : List ByteArray), ([] : List ByteArray), (⟨#[]⟩ : ByteArray)⟩ : S29), false))))
def impl_ReadCert.T8 : Bool × List (List Nat × List Nat) := (true, [([], []), ([], []), ([1], [1]), ([2], [2]), ([0, 3], [0, 3]), ([], []), ([], []), ([6], [6]), ([7], [7]), ([5, 8, 4], [5, 8]), ([], []), ([], []), ([11], [11]), ([12], [12]), ([10, 13, 9], [10, 13]), ([], []), ([], []), ([16], [16]), ([17], [17]), ([15, 18, 14], [15, 18]), ([], []), ([], []), ([21], [21]), ([22], [22]), ([20, 23, 19], [20, 23]), ([], []), ([], []), ([26], [26]), ([27], [27]), ([25, 28, 24], [25, 28]), ([], []), ([], []), ([31], [31]), ([32], [32]), ([30, 33, 29], [30, 33]), ([], []), ([], []), ([36], [36]), ([37], [37]), ([35, 38, 34], [35, 38]), ([], []), ([], []), ([41], [41]), ([42], [42]), ([40, 43, 39], [40, 43]), ([4, 9, 14, 19, 24, 29, 34, 39, 44], [4, 9, 14, 19, 24, 29, 34, 39, 44]), ([], []), ([46, 45, 44, 0, 1, 2, 3, 4, 5, 6, 7, 8, 9, 10, 11, 12, 13, 14, 15, 16, 17, 18, 19, 20, 21, 22, 23, 24, 25, 26, 27, 28, 29, 30, 31, 32, 33, 34, 35, 36, 37, 38, 39, 40, 41, 42, 43, 44, 45, 46], [45, 46])])
theorem impl_ReadCert.tT8 : rtab .any (opsOf Tryd.f29 8) = impl_ReadCert.T8 := by kernel_rfl
def impl_ReadCert.T10 : Bool × List (List Nat × List Nat) := (true, [([], []), ([], []), ([1], [1]), ([2], [2]), ([0, 3], [0, 3]), ([], []), ([], []), ([6], [6]), ([7], [7]), ([5, 8, 4], [5, 8]), ([0, 1, 2, 3, 4], []), ([10, 4, 9, 0, 1, 2, 3, 4], [4, 10]), ([0, 1, 2, 3, 4, 5, 6, 7, 8, 9, 10, 11], []), ([12, 9, 11, 0, 1, 2, 3, 4, 5, 6, 7, 8, 9, 10, 11], [9, 12])])
theorem impl_ReadCert.tT10 : rtab .any (opsOf Tryd.f29 10) = impl_ReadCert.T10 := by kernel_rfl
set_option maxHeartbeats 16000000 in
theorem impl_ReadCert.calls {k : Nat} {a0 : ByteArray} {mG : Int} {r1 : S29} {r2 : Bool} {w : World} (h : impl_ReadCert.f k a0 = some (r1, r2)) (hgM : w.cell? ⟨0, 0, none⟩ = some (.int .i64 mG)) :
    Calls Tryd.prog 29 #[.string a0] w (fun e w' => ∃ v0_ v1_ v2_ : Value, e = .returned (.tuple #[.agg #[.int .i64 r1.f0, .string r1.f1, .string r1.f2, .int .i64 r1.f3, .int .i64 r1.f4, .string r1.f5, .bool r1.f6, .int .i64 r1.f7, .int .i64 r1.f8, v0_, v1_, v2_, .string r1.f12], .bool r2]) ∧ Hp noFP w w' [.own (Zd.slice 3 (Zd.int .i64)) r1.f9 [v0_], .own (Zd.slice 9 Zd.string) r1.f10 [v1_], .own (Zd.slice 9 Zd.string) r1.f11 [v2_]]) := by
 have HS := Hp.start w
 have H := Aside0.mk h
 clear h
 unfold impl_ReadCert.f at H
 go_enter Tryd.func29, Tryd.ntmps29
 replace H := zbind H; obtain ⟨t3, ht3, H⟩ := H
 go_upto_if 19 with (first | ((with_reducible refine gate_dst (N := 2) rfl ?_); refine ev_box rfl HS (by first | (go_simp; done) | (go_simp; rfl)) rfl ?_; clear HS; (try clear F); intro g2 w2 HS; (try simp only [hpn, hpm] at HS); have F := HS.boxes; simp only [bxn] at F) | ((with_reducible refine gate_dst (N := 15) rfl ?_); refine ev_call rfl Tryd.func52 (by kernel_rfl) rfl #[.string a0] rfl (by simp only [mpn]; rfl) ?_; refine (impl_ReadItem.calls ht3.out).mono ?_; rintro _ wt3 ⟨v4, rfl, HQ⟩; refine ⟨_, rfl, ?_⟩; replace HS := HS.call HQ; clear HQ; (try clear F); obtain ⟨B4, d4, rfl, m4⟩ := HS.form 1 rfl; (try simp only [hpn, hpm] at HS); have F := HS.boxes; simp only [bxn] at F; refine HS.lend [0] (by decide) [.box g2 [.int .i64 0, .string (⟨#[]⟩ : ByteArray), .string (⟨#[]⟩ : ByteArray), .int .i64 0, .int .i64 0, .string (⟨#[]⟩ : ByteArray), .bool false, .int .i64 0, .int .i64 0, .slice none 0 0, .slice none 0 0, .slice none 0 0, .string (⟨#[]⟩ : ByteArray)] 29] rfl (fun A6 HL HD HA HB6 => ?_); have gb6_0 := hide_rd HD 1 rfl (by decide); (try replace hgM := HS.hidec HL hgM); replace HS := HA; have hV := hide_view A6 wt3; clear HA HD HL; (try clear F); replace HS : Hp A6 wt3 _ [.box g2 [.int .i64 0, .string (⟨#[]⟩ : ByteArray), .string (⟨#[]⟩ : ByteArray), .int .i64 0, .int .i64 0, .string (⟨#[]⟩ : ByteArray), .bool false, .int .i64 0, .int .i64 0, .slice none 0 0, .slice none 0 0, .slice none 0 0, .string (⟨#[]⟩ : ByteArray)] 29] := HS; have F := HS.boxes; simp only [bxn] at F) | ((with_reducible refine gate_dst (N := 4) rfl ?_); refine ev_box rfl HS (by first | (go_simp; done) | (go_simp; rfl)) rfl ?_; clear HS; (try clear F); intro g4 w4 HS; (try simp only [hpn, hpm] at HS); have F := HS.boxes; simp only [bxn] at F) | ((with_reducible refine gate_store (p := 4) rfl ?_); refine ev_store rfl 1 0 HS (seg := [.int .i64 t3.1.f0, .string t3.1.f1, .slice B4 t3.1.f2.length d4]) rfl rfl rfl rfl rfl rfl (by kernel_rfl) (by simp [wrt]) (by simp [Value.oneCell']) ?_; clear HS; (try clear F); intro w10 HS; (try simp only [hpn, hpm] at HS); have F := HS.boxes; simp only [bxn] at F))
 by_cases c12 : t3.2 = true
 case neg =>
  replace H := zneg c12 H
  replace c12 := eq_false_of_ne_true c12
  (try simp only [c12, dcn])
  obtain ⟨rfl, rfl⟩ := zsome2 H
  go_wp2_with (first | ((with_reducible refine gate_store (p := 2) rfl ?_); refine ev_store rfl 0 0 HS (seg := [.int .i64 0, .string (⟨#[]⟩ : ByteArray), .string (⟨#[]⟩ : ByteArray), .int .i64 0, .int .i64 0, .string (⟨#[]⟩ : ByteArray), .bool false, .int .i64 0, .int .i64 0, .slice none 0 0, .slice none 0 0, .slice none 0 0, .string (⟨#[]⟩ : ByteArray)]) rfl rfl rfl rfl rfl rfl (by kernel_rfl) (by simp [wrt]) (by simp [Value.oneCell']) ?_; clear HS; (try clear F); intro w69 HS; (try simp only [hpn, hpm] at HS); have F := HS.boxes; simp only [bxn] at F))
  have HS := HB6 _ _ HS (Nat.le_of_ble_eq_true rfl)
  replace HS := HS.nil 3 (Zd.int .i64)
  replace HS := HS.nil 9 Zd.string
  replace HS := HS.nil 9 Zd.string
  exact bodyPost_ret (results_list (rs := [.cell 2 29, .tmp 3]) rfl (by simp) (.cell _ _ _ _ _ rfl (HS.boxAt (i := 0) rfl) Tryd.underlying29 rfl (by kernel_rfl) (.tmp .nil))) rfl ⟨_, _, _, rfl, HS.pick [3, 4, 5] (by decide) (by rfl)⟩
 replace H := zpos c12 H
 (try simp only [c12, dcn])
 replace H := zbind H; obtain ⟨t15, ht15, H⟩ := H
 replace H := zlets H; obtain ⟨y18, e_y18, H⟩ := H
 by_cases c21 : 0 < (y18.length : Int)
 case neg => exact zno c21 H
 replace H := zpos c21 H
 replace c21 := eq_true c21
 have c21n : (0 < y18.length) = True := eq_true (by have := of_eq_true c21; omega)
 replace H := zbind H; obtain ⟨t23, ht23, H⟩ := H
 replace H := zlets H; obtain ⟨y26, e_y26, H⟩ := H
 by_cases c29 : 2 < (y26.length : Int)
 case neg => exact zno c29 H
 replace H := zpos c29 H
 replace c29 := eq_true c29
 have c29n : (2 < y26.length) = True := eq_true (by have := of_eq_true c29; omega)
 replace H := zbind H; obtain ⟨t31, ht31, H⟩ := H
 replace H := zlets H; obtain ⟨y34, e_y34, H⟩ := H
 go_wp2_with (first | ((with_reducible refine gate_dst (N := 22) rfl ?_); refine ev_box rfl HS (by first | (go_simp; done) | (go_simp; rfl)) rfl ?_; clear HS; (try clear F); intro g22 w22 HS; (try simp only [hpn, hpm] at HS); have F := HS.boxes; simp only [bxn] at F) | ((with_reducible refine gate_dst (N := 25) rfl ?_); refine HS.lend [2] (by decide) [.box g22 [.bool false] 86] rfl (fun A' HL HD HA HB => ?_); refine ev_call rfl Tryd.func53 (by kernel_rfl) rfl #[.pointer (some ⟨g22, 0, none⟩), .agg #[.int .i64 t3.1.f0, .string t3.1.f1, .slice B4 t3.1.f2.length d4], .int .i64 2] rfl (by simp only [mpn]; rfl) ?_; refine (impl_opener_list_0.calls ht15.out gb6_0 m4 (hV.lend HS HL) HA).mono ?_; rintro _ wt15 ⟨v16, rfl, HQ⟩; refine ⟨_, rfl, ?_⟩; replace HS := HB _ _ HQ (Nat.le_of_ble_eq_true rfl); clear HQ HA HB HL HD; (try simp only [hpn, hpm] at HS); (try clear F); obtain ⟨B16, d16, rfl, m16⟩ := HS.formn t15.1.2 3 rfl (by first | rfl | simp); refine HS.lend [0, 2] (by decide) [.box g2 [.int .i64 0, .string (⟨#[]⟩ : ByteArray), .string (⟨#[]⟩ : ByteArray), .int .i64 0, .int .i64 0, .string (⟨#[]⟩ : ByteArray), .bool false, .int .i64 0, .int .i64 0, .slice none 0 0, .slice none 0 0, .slice none 0 0, .string (⟨#[]⟩ : ByteArray)] 29, .box g22 [.bool t15.2.f0] 86] rfl (fun A19 HL HD HA HB19 => ?_); have gb19_0 := hV.hideC km65 HS HL gb6_0; have zg4_b19_0 := hide_box HD 1 rfl (by decide) (j := 0) rfl; have zg4_b19_1 := hide_box HD 1 rfl (by decide) (j := 1) rfl; have zg4_b19_2 := hide_box HD 1 rfl (by decide) (j := 2) rfl; have gb19_1 := hide_rd HD 3 rfl (by decide); (try replace hgM := hV.hidec HS HL hgM); replace HS := HA; replace hV := hide_view A19 wt15; clear HA HD HL; (try clear F); replace HS : Hp A19 wt15 _ [.box g2 [.int .i64 0, .string (⟨#[]⟩ : ByteArray), .string (⟨#[]⟩ : ByteArray), .int .i64 0, .int .i64 0, .string (⟨#[]⟩ : ByteArray), .bool false, .int .i64 0, .int .i64 0, .slice none 0 0, .slice none 0 0, .slice none 0 0, .string (⟨#[]⟩ : ByteArray)] 29, .box g22 [.bool t15.2.f0] 86] := HS; have F := HS.boxes; simp only [bxn] at F; obtain ⟨B18, d18, ej18, m18, gj18⟩ := join_row e_y18.out gb19_0 m4 gb19_1 m16; rw [ej18]; (try simp only [hpn, hpm] at HS); have F := HS.boxes; simp only [bxn] at F; obtain ⟨ad22, B22_2, d22_2, rfl, e22_0, e22_1, e22_2, m22_2, y22_2⟩ := at_T65 gj18 0 (of_eq_true (eq_true (by decide))) (of_eq_true c21); (try (have e22_0' := e22_0; simp only [Int.toNat_zero, Int.reduceToNat, Int.toNat_natCast, Nat.zero_mul, Nat.one_mul, Nat.zero_add, Nat.add_zero, Addr.add_zero', Addr.add_succ', Nat.reduceMul, Nat.reduceAdd] at e22_0')); (try (have e22_1' := e22_1; simp only [Int.toNat_zero, Int.reduceToNat, Int.toNat_natCast, Nat.zero_mul, Nat.one_mul, Nat.zero_add, Nat.add_zero, Addr.add_zero', Addr.add_succ', Nat.reduceMul, Nat.reduceAdd] at e22_1')); (try (have e22_2' := e22_2; simp only [Int.toNat_zero, Int.reduceToNat, Int.toNat_natCast, Nat.zero_mul, Nat.one_mul, Nat.zero_add, Nat.add_zero, Addr.add_zero', Addr.add_succ', Nat.reduceMul, Nat.reduceAdd] at e22_2')); have e22_0_22 := (hV.keepc HS e22_0); have e22_1_22 := (hV.keepc HS e22_1); have e22_2_22 := (hV.keepc HS e22_2); (try have e22_0'_22 := (hV.keepc HS e22_0')); (try have e22_1'_22 := (hV.keepc HS e22_1')); (try have e22_2'_22 := (hV.keepc HS e22_2'))) | ((with_reducible refine gate_dst (N := 30) rfl ?_); refine HS.lend [1] (by decide) [.box g22 [.bool t15.2.f0] 86] rfl (fun A' HL HD HA HB => ?_); refine ev_call rfl Tryd.func53 (by kernel_rfl) rfl #[.pointer (some ⟨g22, 0, none⟩), .agg #[.int .i64 ((rd_T65 y18 0).f0), .string ((rd_T65 y18 0).f1), .slice B22_2 (rd_T65 y18 0).f2.length d22_2], .int .i64 11] rfl (by simp only [mpn]; rfl) ?_; refine (impl_opener_list_0.calls ht23.out y22_2 m22_2 (hV.lend HS HL) HA).mono ?_; rintro _ wt23 ⟨v24, rfl, HQ⟩; refine ⟨_, rfl, ?_⟩; replace HS := HB _ _ HQ (Nat.le_of_ble_eq_true rfl); clear HQ HA HB HL HD; (try simp only [hpn, hpm] at HS); (try clear F); obtain ⟨B24, d24, rfl, m24⟩ := HS.formn t23.1.2 2 rfl (by first | rfl | simp); refine HS.lend [0, 1] (by decide) [.box g2 [.int .i64 0, .string (⟨#[]⟩ : ByteArray), .string (⟨#[]⟩ : ByteArray), .int .i64 0, .int .i64 0, .string (⟨#[]⟩ : ByteArray), .bool false, .int .i64 0, .int .i64 0, .slice none 0 0, .slice none 0 0, .slice none 0 0, .string (⟨#[]⟩ : ByteArray)] 29, .box g22 [.bool t23.2.f0] 86] rfl (fun A27 HL HD HA HB27 => ?_); have gb27_0 := hV.hideC km65 HS HL gb19_0; have zg4_b19_0_b27 := hV.hidec HS HL zg4_b19_0; have zg4_b19_1_b27 := hV.hidec HS HL zg4_b19_1; have zg4_b19_2_b27 := hV.hidec HS HL zg4_b19_2; have gb27_4 := hV.hideC km65 HS HL gj18; have gb27_5 := hV.hideC km65 HS HL y22_2; have gb27_6 := hide_rd HD 2 rfl (by decide); (try replace hgM := hV.hidec HS HL hgM); replace HS := HA; replace hV := hide_view A27 wt23; clear HA HD HL; (try clear F); replace HS : Hp A27 wt23 _ [.box g2 [.int .i64 0, .string (⟨#[]⟩ : ByteArray), .string (⟨#[]⟩ : ByteArray), .int .i64 0, .int .i64 0, .string (⟨#[]⟩ : ByteArray), .bool false, .int .i64 0, .int .i64 0, .slice none 0 0, .slice none 0 0, .slice none 0 0, .string (⟨#[]⟩ : ByteArray)] 29, .box g22 [.bool t23.2.f0] 86] := HS; have F := HS.boxes; simp only [bxn] at F; obtain ⟨B26, d26, ej26, m26, gj26⟩ := join_row e_y26.out gb27_5 m22_2 gb27_6 m24; rw [ej26]; (try simp only [hpn, hpm] at HS); have F := HS.boxes; simp only [bxn] at F; obtain ⟨ad30, B30_2, d30_2, rfl, e30_0, e30_1, e30_2, m30_2, y30_2⟩ := at_T65 gj26 2 (of_eq_true (eq_true (by decide))) (of_eq_true c29); (try (have e30_0' := e30_0; simp only [Int.toNat_zero, Int.reduceToNat, Int.toNat_natCast, Nat.zero_mul, Nat.one_mul, Nat.zero_add, Nat.add_zero, Addr.add_zero', Addr.add_succ', Nat.reduceMul, Nat.reduceAdd] at e30_0')); (try (have e30_1' := e30_1; simp only [Int.toNat_zero, Int.reduceToNat, Int.toNat_natCast, Nat.zero_mul, Nat.one_mul, Nat.zero_add, Nat.add_zero, Addr.add_zero', Addr.add_succ', Nat.reduceMul, Nat.reduceAdd] at e30_1')); (try (have e30_2' := e30_2; simp only [Int.toNat_zero, Int.reduceToNat, Int.toNat_natCast, Nat.zero_mul, Nat.one_mul, Nat.zero_add, Nat.add_zero, Addr.add_zero', Addr.add_succ', Nat.reduceMul, Nat.reduceAdd] at e30_2')); have e30_0_30 := (hV.keepc HS e30_0); have e30_1_30 := (hV.keepc HS e30_1); have e30_2_30 := (hV.keepc HS e30_2); (try have e30_0'_30 := (hV.keepc HS e30_0')); (try have e30_1'_30 := (hV.keepc HS e30_1')); (try have e30_2'_30 := (hV.keepc HS e30_2'))) | ((with_reducible refine gate_dst (N := 35) rfl ?_); refine HS.lend [1] (by decide) [.box g22 [.bool t23.2.f0] 86] rfl (fun A' HL HD HA HB => ?_); refine ev_call rfl Tryd.func53 (by kernel_rfl) rfl #[.pointer (some ⟨g22, 0, none⟩), .agg #[.int .i64 ((rd_T65 y26 2).f0), .string ((rd_T65 y26 2).f1), .slice B30_2 (rd_T65 y26 2).f2.length d30_2], .int .i64 2] rfl (by simp only [mpn]; rfl) ?_; refine (impl_opener_list_0.calls ht31.out y30_2 m30_2 (hV.lend HS HL) HA).mono ?_; rintro _ wt31 ⟨v32, rfl, HQ⟩; refine ⟨_, rfl, ?_⟩; replace HS := HB _ _ HQ (Nat.le_of_ble_eq_true rfl); clear HQ HA HB HL HD; (try simp only [hpn, hpm] at HS); (try clear F); obtain ⟨B32, d32, rfl, m32⟩ := HS.formn t31.1.2 2 rfl (by first | rfl | simp); refine HS.lend [0, 1] (by decide) [.box g2 [.int .i64 0, .string (⟨#[]⟩ : ByteArray), .string (⟨#[]⟩ : ByteArray), .int .i64 0, .int .i64 0, .string (⟨#[]⟩ : ByteArray), .bool false, .int .i64 0, .int .i64 0, .slice none 0 0, .slice none 0 0, .slice none 0 0, .string (⟨#[]⟩ : ByteArray)] 29, .box g22 [.bool t31.2.f0] 86] rfl (fun A35 HL HD HA HB35 => ?_); have gb35_0 := hV.hideC km65 HS HL gb27_0; have zg4_b19_0_b27_b35 := hV.hidec HS HL zg4_b19_0_b27; have zg4_b19_1_b27_b35 := hV.hidec HS HL zg4_b19_1_b27; have zg4_b19_2_b27_b35 := hV.hidec HS HL zg4_b19_2_b27; have gb35_4 := hV.hideC km65 HS HL gb27_4; have gb35_5 := hV.hideC km65 HS HL gb27_5; have gb35_6 := hV.hideC km65 HS HL gj26; have gb35_7 := hV.hideC km65 HS HL y30_2; have gb35_8 := hide_rd HD 2 rfl (by decide); (try replace hgM := hV.hidec HS HL hgM); replace HS := HA; replace hV := hide_view A35 wt31; clear HA HD HL; (try clear F); replace HS : Hp A35 wt31 _ [.box g2 [.int .i64 0, .string (⟨#[]⟩ : ByteArray), .string (⟨#[]⟩ : ByteArray), .int .i64 0, .int .i64 0, .string (⟨#[]⟩ : ByteArray), .bool false, .int .i64 0, .int .i64 0, .slice none 0 0, .slice none 0 0, .slice none 0 0, .string (⟨#[]⟩ : ByteArray)] 29, .box g22 [.bool t31.2.f0] 86] := HS; have F := HS.boxes; simp only [bxn] at F; obtain ⟨B34, d34, ej34, m34, gj34⟩ := join_row e_y34.out gb35_7 m30_2 gb35_8 m32; rw [ej34]; (try simp only [hpn, hpm] at HS); have F := HS.boxes; simp only [bxn] at F))
 by_cases c102001 : 0 < (y26.length : Int)
 case neg => exact zno c102001 H
 replace H := zpos c102001 H
 replace c102001 := eq_true c102001
 have c102001n : (0 < y26.length) = True := eq_true (by have := of_eq_true c102001; omega)
 obtain ⟨ad102999, B102999_2, d102999_2, hq102999, e102999_0, e102999_1, e102999_2, m102999_2, y102999_2⟩ := at_T65 gb35_6 0 (of_eq_true (eq_true (by decide))) (of_eq_true c102001); obtain rfl := Option.some.inj hq102999; (try (have e102999_0' := e102999_0; simp only [Int.toNat_zero, Int.reduceToNat, Int.toNat_natCast, Nat.zero_mul, Nat.one_mul, Nat.zero_add, Nat.add_zero, Addr.add_zero', Addr.add_succ', Nat.reduceMul, Nat.reduceAdd] at e102999_0')); (try (have e102999_1' := e102999_1; simp only [Int.toNat_zero, Int.reduceToNat, Int.toNat_natCast, Nat.zero_mul, Nat.one_mul, Nat.zero_add, Nat.add_zero, Addr.add_zero', Addr.add_succ', Nat.reduceMul, Nat.reduceAdd] at e102999_1')); (try (have e102999_2' := e102999_2; simp only [Int.toNat_zero, Int.reduceToNat, Int.toNat_natCast, Nat.zero_mul, Nat.one_mul, Nat.zero_add, Nat.add_zero, Addr.add_zero', Addr.add_succ', Nat.reduceMul, Nat.reduceAdd] at e102999_2'))
 replace H := zbind H; obtain ⟨t104001, ht104001, H⟩ := H
 by_cases c107001 : 1 < (y26.length : Int)
 case neg => exact zno c107001 H
 replace H := zpos c107001 H
 replace c107001 := eq_true c107001
 have c107001n : (1 < y26.length) = True := eq_true (by have := of_eq_true c107001; omega)
 obtain ⟨ad107999, B107999_2, d107999_2, hq107999, e107999_0, e107999_1, e107999_2, m107999_2, y107999_2⟩ := at_T65 gb35_6 1 (of_eq_true (eq_true (by decide))) (of_eq_true c107001); obtain rfl := Option.some.inj hq107999; (try (have e107999_0' := e107999_0; simp only [Int.toNat_zero, Int.reduceToNat, Int.toNat_natCast, Nat.zero_mul, Nat.one_mul, Nat.zero_add, Nat.add_zero, Addr.add_zero', Addr.add_succ', Nat.reduceMul, Nat.reduceAdd] at e107999_0')); (try (have e107999_1' := e107999_1; simp only [Int.toNat_zero, Int.reduceToNat, Int.toNat_natCast, Nat.zero_mul, Nat.one_mul, Nat.zero_add, Nat.add_zero, Addr.add_zero', Addr.add_succ', Nat.reduceMul, Nat.reduceAdd] at e107999_1')); (try (have e107999_2' := e107999_2; simp only [Int.toNat_zero, Int.reduceToNat, Int.toNat_natCast, Nat.zero_mul, Nat.one_mul, Nat.zero_add, Nat.add_zero, Addr.add_zero', Addr.add_succ', Nat.reduceMul, Nat.reduceAdd] at e107999_2'))
 replace H := zbind H; obtain ⟨t109001, ht109001, H⟩ := H
 by_cases c112001 : 0 < (y34.length : Int)
 case neg => exact zno c112001 H
 replace H := zpos c112001 H
 replace c112001 := eq_true c112001
 have c112001n : (0 < y34.length) = True := eq_true (by have := of_eq_true c112001; omega)
 obtain ⟨ad112999, B112999_2, d112999_2, rfl, e112999_0, e112999_1, e112999_2, m112999_2, y112999_2⟩ := at_T65 gj34 0 (of_eq_true (eq_true (by decide))) (of_eq_true c112001); (try (have e112999_0' := e112999_0; simp only [Int.toNat_zero, Int.reduceToNat, Int.toNat_natCast, Nat.zero_mul, Nat.one_mul, Nat.zero_add, Nat.add_zero, Addr.add_zero', Addr.add_succ', Nat.reduceMul, Nat.reduceAdd] at e112999_0')); (try (have e112999_1' := e112999_1; simp only [Int.toNat_zero, Int.reduceToNat, Int.toNat_natCast, Nat.zero_mul, Nat.one_mul, Nat.zero_add, Nat.add_zero, Addr.add_zero', Addr.add_succ', Nat.reduceMul, Nat.reduceAdd] at e112999_1')); (try (have e112999_2' := e112999_2; simp only [Int.toNat_zero, Int.reduceToNat, Int.toNat_natCast, Nat.zero_mul, Nat.one_mul, Nat.zero_add, Nat.add_zero, Addr.add_zero', Addr.add_succ', Nat.reduceMul, Nat.reduceAdd] at e112999_2'))
 replace H := zbind H; obtain ⟨t114001, ht114001, H⟩ := H
 by_cases c117001 : 1 < (y34.length : Int)
 case neg => exact zno c117001 H
 replace H := zpos c117001 H
 replace c117001 := eq_true c117001
 have c117001n : (1 < y34.length) = True := eq_true (by have := of_eq_true c117001; omega)
 obtain ⟨ad117999, B117999_2, d117999_2, hq117999, e117999_0, e117999_1, e117999_2, m117999_2, y117999_2⟩ := at_T65 gj34 1 (of_eq_true (eq_true (by decide))) (of_eq_true c117001); obtain rfl := Option.some.inj hq117999; (try (have e117999_0' := e117999_0; simp only [Int.toNat_zero, Int.reduceToNat, Int.toNat_natCast, Nat.zero_mul, Nat.one_mul, Nat.zero_add, Nat.add_zero, Addr.add_zero', Addr.add_succ', Nat.reduceMul, Nat.reduceAdd] at e117999_0')); (try (have e117999_1' := e117999_1; simp only [Int.toNat_zero, Int.reduceToNat, Int.toNat_natCast, Nat.zero_mul, Nat.one_mul, Nat.zero_add, Nat.add_zero, Addr.add_zero', Addr.add_succ', Nat.reduceMul, Nat.reduceAdd] at e117999_1')); (try (have e117999_2' := e117999_2; simp only [Int.toNat_zero, Int.reduceToNat, Int.toNat_natCast, Nat.zero_mul, Nat.one_mul, Nat.zero_add, Nat.add_zero, Addr.add_zero', Addr.add_succ', Nat.reduceMul, Nat.reduceAdd] at e117999_2'))
 replace H := zbind H; obtain ⟨t119001, ht119001, H⟩ := H
 by_cases c122001 : 3 < (y26.length : Int)
 case neg => exact zno c122001 H
 replace H := zpos c122001 H
 replace c122001 := eq_true c122001
 have c122001n : (3 < y26.length) = True := eq_true (by have := of_eq_true c122001; omega)
 obtain ⟨ad122999, B122999_2, d122999_2, hq122999, e122999_0, e122999_1, e122999_2, m122999_2, y122999_2⟩ := at_T65 gb35_6 3 (of_eq_true (eq_true (by decide))) (of_eq_true c122001); obtain rfl := Option.some.inj hq122999; (try (have e122999_0' := e122999_0; simp only [Int.toNat_zero, Int.reduceToNat, Int.toNat_natCast, Nat.zero_mul, Nat.one_mul, Nat.zero_add, Nat.add_zero, Addr.add_zero', Addr.add_succ', Nat.reduceMul, Nat.reduceAdd] at e122999_0')); (try (have e122999_1' := e122999_1; simp only [Int.toNat_zero, Int.reduceToNat, Int.toNat_natCast, Nat.zero_mul, Nat.one_mul, Nat.zero_add, Nat.add_zero, Addr.add_zero', Addr.add_succ', Nat.reduceMul, Nat.reduceAdd] at e122999_1')); (try (have e122999_2' := e122999_2; simp only [Int.toNat_zero, Int.reduceToNat, Int.toNat_natCast, Nat.zero_mul, Nat.one_mul, Nat.zero_add, Nat.add_zero, Addr.add_zero', Addr.add_succ', Nat.reduceMul, Nat.reduceAdd] at e122999_2'))
 replace H := zbind H; obtain ⟨t124001, ht124001, H⟩ := H
 by_cases c127001 : 4 < (y26.length : Int)
 case neg => exact zno c127001 H
 replace H := zpos c127001 H
 replace c127001 := eq_true c127001
 have c127001n : (4 < y26.length) = True := eq_true (by have := of_eq_true c127001; omega)
 obtain ⟨ad127999, B127999_2, d127999_2, hq127999, e127999_0, e127999_1, e127999_2, m127999_2, y127999_2⟩ := at_T65 gb35_6 4 (of_eq_true (eq_true (by decide))) (of_eq_true c127001); obtain rfl := Option.some.inj hq127999; (try (have e127999_0' := e127999_0; simp only [Int.toNat_zero, Int.reduceToNat, Int.toNat_natCast, Nat.zero_mul, Nat.one_mul, Nat.zero_add, Nat.add_zero, Addr.add_zero', Addr.add_succ', Nat.reduceMul, Nat.reduceAdd] at e127999_0')); (try (have e127999_1' := e127999_1; simp only [Int.toNat_zero, Int.reduceToNat, Int.toNat_natCast, Nat.zero_mul, Nat.one_mul, Nat.zero_add, Nat.add_zero, Addr.add_zero', Addr.add_succ', Nat.reduceMul, Nat.reduceAdd] at e127999_1')); (try (have e127999_2' := e127999_2; simp only [Int.toNat_zero, Int.reduceToNat, Int.toNat_natCast, Nat.zero_mul, Nat.one_mul, Nat.zero_add, Nat.add_zero, Addr.add_zero', Addr.add_succ', Nat.reduceMul, Nat.reduceAdd] at e127999_2'))
 replace H := zbind H; obtain ⟨t129001, ht129001, H⟩ := H
 by_cases c132001 : 5 < (y26.length : Int)
 case neg => exact zno c132001 H
 replace H := zpos c132001 H
 replace c132001 := eq_true c132001
 have c132001n : (5 < y26.length) = True := eq_true (by have := of_eq_true c132001; omega)
 obtain ⟨ad132999, B132999_2, d132999_2, hq132999, e132999_0, e132999_1, e132999_2, m132999_2, y132999_2⟩ := at_T65 gb35_6 5 (of_eq_true (eq_true (by decide))) (of_eq_true c132001); obtain rfl := Option.some.inj hq132999; (try (have e132999_0' := e132999_0; simp only [Int.toNat_zero, Int.reduceToNat, Int.toNat_natCast, Nat.zero_mul, Nat.one_mul, Nat.zero_add, Nat.add_zero, Addr.add_zero', Addr.add_succ', Nat.reduceMul, Nat.reduceAdd] at e132999_0')); (try (have e132999_1' := e132999_1; simp only [Int.toNat_zero, Int.reduceToNat, Int.toNat_natCast, Nat.zero_mul, Nat.one_mul, Nat.zero_add, Nat.add_zero, Addr.add_zero', Addr.add_succ', Nat.reduceMul, Nat.reduceAdd] at e132999_1')); (try (have e132999_2' := e132999_2; simp only [Int.toNat_zero, Int.reduceToNat, Int.toNat_natCast, Nat.zero_mul, Nat.one_mul, Nat.zero_add, Nat.add_zero, Addr.add_zero', Addr.add_succ', Nat.reduceMul, Nat.reduceAdd] at e132999_2'))
 replace H := zbind H; obtain ⟨t134001, ht134001, H⟩ := H
 by_cases c137001 : 6 < (y26.length : Int)
 case neg => exact zno c137001 H
 replace H := zpos c137001 H
 replace c137001 := eq_true c137001
 have c137001n : (6 < y26.length) = True := eq_true (by have := of_eq_true c137001; omega)
 obtain ⟨ad137999, B137999_2, d137999_2, hq137999, e137999_0, e137999_1, e137999_2, m137999_2, y137999_2⟩ := at_T65 gb35_6 6 (of_eq_true (eq_true (by decide))) (of_eq_true c137001); obtain rfl := Option.some.inj hq137999; (try (have e137999_0' := e137999_0; simp only [Int.toNat_zero, Int.reduceToNat, Int.toNat_natCast, Nat.zero_mul, Nat.one_mul, Nat.zero_add, Nat.add_zero, Addr.add_zero', Addr.add_succ', Nat.reduceMul, Nat.reduceAdd] at e137999_0')); (try (have e137999_1' := e137999_1; simp only [Int.toNat_zero, Int.reduceToNat, Int.toNat_natCast, Nat.zero_mul, Nat.one_mul, Nat.zero_add, Nat.add_zero, Addr.add_zero', Addr.add_succ', Nat.reduceMul, Nat.reduceAdd] at e137999_1')); (try (have e137999_2' := e137999_2; simp only [Int.toNat_zero, Int.reduceToNat, Int.toNat_natCast, Nat.zero_mul, Nat.one_mul, Nat.zero_add, Nat.add_zero, Addr.add_zero', Addr.add_succ', Nat.reduceMul, Nat.reduceAdd] at e137999_2'))
 replace H := zbind H; obtain ⟨t139001, ht139001, H⟩ := H
 by_cases c142001 : 7 < (y26.length : Int)
 case neg => exact zno c142001 H
 replace H := zpos c142001 H
 replace c142001 := eq_true c142001
 have c142001n : (7 < y26.length) = True := eq_true (by have := of_eq_true c142001; omega)
 obtain ⟨ad142999, B142999_2, d142999_2, hq142999, e142999_0, e142999_1, e142999_2, m142999_2, y142999_2⟩ := at_T65 gb35_6 7 (of_eq_true (eq_true (by decide))) (of_eq_true c142001); obtain rfl := Option.some.inj hq142999; (try (have e142999_0' := e142999_0; simp only [Int.toNat_zero, Int.reduceToNat, Int.toNat_natCast, Nat.zero_mul, Nat.one_mul, Nat.zero_add, Nat.add_zero, Addr.add_zero', Addr.add_succ', Nat.reduceMul, Nat.reduceAdd] at e142999_0')); (try (have e142999_1' := e142999_1; simp only [Int.toNat_zero, Int.reduceToNat, Int.toNat_natCast, Nat.zero_mul, Nat.one_mul, Nat.zero_add, Nat.add_zero, Addr.add_zero', Addr.add_succ', Nat.reduceMul, Nat.reduceAdd] at e142999_1')); (try (have e142999_2' := e142999_2; simp only [Int.toNat_zero, Int.reduceToNat, Int.toNat_natCast, Nat.zero_mul, Nat.one_mul, Nat.zero_add, Nat.add_zero, Addr.add_zero', Addr.add_succ', Nat.reduceMul, Nat.reduceAdd] at e142999_2'))
 replace H := zbind H; obtain ⟨t144001, ht144001, H⟩ := H
 refine dr_start2 [.box g2 [.int .i64 0, .string (⟨#[]⟩ : ByteArray), .string (⟨#[]⟩ : ByteArray), .int .i64 0, .int .i64 0, .string (⟨#[]⟩ : ByteArray), .bool false, .int .i64 0, .int .i64 0, .slice none 0 0, .slice none 0 0, .slice none 0 0, .string (⟨#[]⟩ : ByteArray)] 29, .emp] [47] HS (HS.arr [some 0, none] (by decide)) #[false, false, false, false, false, false, false, false, false, false, false, false, false, false, false, false, false, false, false, false, false, false, false, false, false, false, false, false, false, false, false, false, false, false, false, false, false, false, false, false, false, false, false, false, false, false, false, false] (by kernel_rfl) rfl rfl impl_ReadCert.tT8 (fun w38 HT HS HH => ?_)
 (try clear F)
 refine join_ 0 #[true, true, true, true, true, true, true, true, true, true, true, true, true, true, true, true, true, true, true, true, true, true, true, true, true, true, true, true, true, true, true, true, true, true, true, true, true, true, true, true, true, true, true, true, true, true, true, true] (fun ((g10, pe38, pe39, pe43, pe44, pe48, pe49, pe53, pe54, pe58, pe59, pe63, pe64, pe68, pe69, pe73, pe74, pe78, pe79) : Nat × Value × Value × Value × Value × Value × Value × Value × Value × Value × Value × Value × Value × Value × Value × Value × Value × Value × Value) => ([(36, .pointer (some ⟨g22, 0, none⟩)), (37, .slice (some ad30) y26.length d26), (38, pe38), (39, pe39), (40, .int .i64 t104001.1), (41, .pointer (some ⟨g22, 0, none⟩)), (42, .slice (some ad30) y26.length d26), (43, pe43), (44, pe44), (45, .string t109001.1), (46, .pointer (some ⟨g22, 0, none⟩)), (47, .slice (some ad112999) y34.length d34), (48, pe48), (49, pe49), (50, .int .i64 t114001.1), (51, .pointer (some ⟨g22, 0, none⟩)), (52, .slice (some ad112999) y34.length d34), (53, pe53), (54, pe54), (55, .int .i64 t119001.1), (56, .pointer (some ⟨g22, 0, none⟩)), (57, .slice (some ad30) y26.length d26), (58, pe58), (59, pe59), (60, .string t124001.1), (61, .pointer (some ⟨g22, 0, none⟩)), (62, .slice (some ad30) y26.length d26), (63, pe63), (64, pe64), (65, .string t129001.1), (66, .pointer (some ⟨g22, 0, none⟩)), (67, .slice (some ad30) y26.length d26), (68, pe68), (69, pe69), (70, .bool t134001.1), (71, .pointer (some ⟨g22, 0, none⟩)), (72, .slice (some ad30) y26.length d26), (73, pe73), (74, pe74), (75, .int .i64 t139001.1), (76, .pointer (some ⟨g22, 0, none⟩)), (77, .slice (some ad30) y26.length d26), (78, pe78), (79, pe79), (80, .int .i64 t144001.1), (81, .agg #[.int .i64 t104001.1, .string t109001.1, .string t124001.1, .int .i64 t114001.1, .int .i64 t119001.1, .string t129001.1, .bool t134001.1, .int .i64 t139001.1, .int .i64 t144001.1, .slice none 0 0, .slice none 0 0, .slice none 0 0, .string (⟨#[]⟩ : ByteArray)]), (10, .pointer (some ⟨g10, 0, none⟩))] : List (Tmp × Value))) (fun ((g10, pe38, pe39, pe43, pe44, pe48, pe49, pe53, pe54, pe58, pe59, pe63, pe64, pe68, pe69, pe73, pe74, pe78, pe79) : Nat × Value × Value × Value × Value × Value × Value × Value × Value × Value × Value × Value × Value × Value × Value × Value × Value × Value × Value) w' => Hp A35 wt31 w' [.box g2 [.int .i64 0, .string (⟨#[]⟩ : ByteArray), .string (⟨#[]⟩ : ByteArray), .int .i64 0, .int .i64 0, .string (⟨#[]⟩ : ByteArray), .bool false, .int .i64 0, .int .i64 0, .slice none 0 0, .slice none 0 0, .slice none 0 0, .string (⟨#[]⟩ : ByteArray)] 29, .box g22 [.bool t144001.2.f0] 86, .box g10 [.int .i64 t104001.1, .string t109001.1, .string t124001.1, .int .i64 t114001.1, .int .i64 t119001.1, .string t129001.1, .bool t134001.1, .int .i64 t139001.1, .int .i64 t144001.1, .slice none 0 0, .slice none 0 0, .slice none 0 0, .string (⟨#[]⟩ : ByteArray)] 29]) ?_ ?_
 rotate_left
 · intro hJ
   refine drq_of [(0, some 36), (1, some 37), (2, some 38)] ?_
   repeat (first | (refine drq_pure HT (v := ?_) (a' := ?_) rfl rfl (by kernel_rfl) (fun _ _ _ h => h) (.inl ⟨by rfl, ?_⟩) ?_ ?_; rotate_left; (intro w'; go_simp; with_reducible rfl); rotate_left; (simp only [Act.put, ptn]; rfl)))
   refine drq_end ?_
   refine dr_take 3 (some 39) HT HH (v := ?_) (a' := ?_) rfl rfl (by kernel_rfl) (fun _ _ _ h => h) (.inl ⟨by rfl, ?_⟩) ?_ ?_
   rotate_left
   · rintro w' ⟨rs', HS'⟩; have e102999_0 := (hV.keepc HS' e102999_0); have e102999_1 := (hV.keepc HS' e102999_1); have e102999_2 := (hV.keepc HS' e102999_2); (try simp only [Int.toNat_zero, Int.reduceToNat, Int.toNat_natCast, Nat.zero_mul, Nat.one_mul, Nat.zero_add, Nat.add_zero, Addr.add_zero', Addr.add_succ', Nat.reduceMul, Nat.reduceAdd] at e102999_0 e102999_1 e102999_2); go_simp; with_reducible rfl
   rotate_left
   · simp only [Act.put, ptn]; rfl
   refine drq_of [(5, some 41), (6, some 42), (7, some 43)] ?_
   repeat (first | (refine drq_pure HT (v := ?_) (a' := ?_) rfl rfl (by kernel_rfl) (fun _ _ _ h => h) (.inl ⟨by rfl, ?_⟩) ?_ ?_; rotate_left; (intro w'; go_simp; with_reducible rfl); rotate_left; (simp only [Act.put, ptn]; rfl)))
   refine drq_end ?_
   refine dr_take 8 (some 44) HT HH (v := ?_) (a' := ?_) rfl rfl (by kernel_rfl) (fun _ _ _ h => h) (.inl ⟨by rfl, ?_⟩) ?_ ?_
   rotate_left
   · rintro w' ⟨rs', HS'⟩; have e107999_0 := (hV.keepc HS' e107999_0); have e107999_1 := (hV.keepc HS' e107999_1); have e107999_2 := (hV.keepc HS' e107999_2); (try simp only [Int.toNat_zero, Int.reduceToNat, Int.toNat_natCast, Nat.zero_mul, Nat.one_mul, Nat.zero_add, Nat.add_zero, Addr.add_zero', Addr.add_succ', Nat.reduceMul, Nat.reduceAdd] at e107999_0 e107999_1 e107999_2); go_simp; with_reducible rfl
   rotate_left
   · simp only [Act.put, ptn]; rfl
   refine drq_of [(10, some 46), (11, some 47), (12, some 48)] ?_
   repeat (first | (refine drq_pure HT (v := ?_) (a' := ?_) rfl rfl (by kernel_rfl) (fun _ _ _ h => h) (.inl ⟨by rfl, ?_⟩) ?_ ?_; rotate_left; (intro w'; go_simp; with_reducible rfl); rotate_left; (simp only [Act.put, ptn]; rfl)))
   refine drq_end ?_
   refine dr_take 13 (some 49) HT HH (v := ?_) (a' := ?_) rfl rfl (by kernel_rfl) (fun _ _ _ h => h) (.inl ⟨by rfl, ?_⟩) ?_ ?_
   rotate_left
   · rintro w' ⟨rs', HS'⟩; have e112999_0 := (hV.keepc HS' e112999_0); have e112999_1 := (hV.keepc HS' e112999_1); have e112999_2 := (hV.keepc HS' e112999_2); (try simp only [Int.toNat_zero, Int.reduceToNat, Int.toNat_natCast, Nat.zero_mul, Nat.one_mul, Nat.zero_add, Nat.add_zero, Addr.add_zero', Addr.add_succ', Nat.reduceMul, Nat.reduceAdd] at e112999_0 e112999_1 e112999_2); go_simp; with_reducible rfl
   rotate_left
   · simp only [Act.put, ptn]; rfl
   refine drq_of [(15, some 51), (16, some 52), (17, some 53)] ?_
   repeat (first | (refine drq_pure HT (v := ?_) (a' := ?_) rfl rfl (by kernel_rfl) (fun _ _ _ h => h) (.inl ⟨by rfl, ?_⟩) ?_ ?_; rotate_left; (intro w'; go_simp; with_reducible rfl); rotate_left; (simp only [Act.put, ptn]; rfl)))
   refine drq_end ?_
   refine dr_take 18 (some 54) HT HH (v := ?_) (a' := ?_) rfl rfl (by kernel_rfl) (fun _ _ _ h => h) (.inl ⟨by rfl, ?_⟩) ?_ ?_
   rotate_left
   · rintro w' ⟨rs', HS'⟩; have e117999_0 := (hV.keepc HS' e117999_0); have e117999_1 := (hV.keepc HS' e117999_1); have e117999_2 := (hV.keepc HS' e117999_2); (try simp only [Int.toNat_zero, Int.reduceToNat, Int.toNat_natCast, Nat.zero_mul, Nat.one_mul, Nat.zero_add, Nat.add_zero, Addr.add_zero', Addr.add_succ', Nat.reduceMul, Nat.reduceAdd] at e117999_0 e117999_1 e117999_2); go_simp; with_reducible rfl
   rotate_left
   · simp only [Act.put, ptn]; rfl
   refine drq_of [(20, some 56), (21, some 57), (22, some 58)] ?_
   repeat (first | (refine drq_pure HT (v := ?_) (a' := ?_) rfl rfl (by kernel_rfl) (fun _ _ _ h => h) (.inl ⟨by rfl, ?_⟩) ?_ ?_; rotate_left; (intro w'; go_simp; with_reducible rfl); rotate_left; (simp only [Act.put, ptn]; rfl)))
   refine drq_end ?_
   refine dr_take 23 (some 59) HT HH (v := ?_) (a' := ?_) rfl rfl (by kernel_rfl) (fun _ _ _ h => h) (.inl ⟨by rfl, ?_⟩) ?_ ?_
   rotate_left
   · rintro w' ⟨rs', HS'⟩; have e122999_0 := (hV.keepc HS' e122999_0); have e122999_1 := (hV.keepc HS' e122999_1); have e122999_2 := (hV.keepc HS' e122999_2); (try simp only [Int.toNat_zero, Int.reduceToNat, Int.toNat_natCast, Nat.zero_mul, Nat.one_mul, Nat.zero_add, Nat.add_zero, Addr.add_zero', Addr.add_succ', Nat.reduceMul, Nat.reduceAdd] at e122999_0 e122999_1 e122999_2); go_simp; with_reducible rfl
   rotate_left
   · simp only [Act.put, ptn]; rfl
   refine drq_of [(25, some 61), (26, some 62), (27, some 63)] ?_
   repeat (first | (refine drq_pure HT (v := ?_) (a' := ?_) rfl rfl (by kernel_rfl) (fun _ _ _ h => h) (.inl ⟨by rfl, ?_⟩) ?_ ?_; rotate_left; (intro w'; go_simp; with_reducible rfl); rotate_left; (simp only [Act.put, ptn]; rfl)))
   refine drq_end ?_
   refine dr_take 28 (some 64) HT HH (v := ?_) (a' := ?_) rfl rfl (by kernel_rfl) (fun _ _ _ h => h) (.inl ⟨by rfl, ?_⟩) ?_ ?_
   rotate_left
   · rintro w' ⟨rs', HS'⟩; have e127999_0 := (hV.keepc HS' e127999_0); have e127999_1 := (hV.keepc HS' e127999_1); have e127999_2 := (hV.keepc HS' e127999_2); (try simp only [Int.toNat_zero, Int.reduceToNat, Int.toNat_natCast, Nat.zero_mul, Nat.one_mul, Nat.zero_add, Nat.add_zero, Addr.add_zero', Addr.add_succ', Nat.reduceMul, Nat.reduceAdd] at e127999_0 e127999_1 e127999_2); go_simp; with_reducible rfl
   rotate_left
   · simp only [Act.put, ptn]; rfl
   refine drq_of [(30, some 66), (31, some 67), (32, some 68)] ?_
   repeat (first | (refine drq_pure HT (v := ?_) (a' := ?_) rfl rfl (by kernel_rfl) (fun _ _ _ h => h) (.inl ⟨by rfl, ?_⟩) ?_ ?_; rotate_left; (intro w'; go_simp; with_reducible rfl); rotate_left; (simp only [Act.put, ptn]; rfl)))
   refine drq_end ?_
   refine dr_take 33 (some 69) HT HH (v := ?_) (a' := ?_) rfl rfl (by kernel_rfl) (fun _ _ _ h => h) (.inl ⟨by rfl, ?_⟩) ?_ ?_
   rotate_left
   · rintro w' ⟨rs', HS'⟩; have e132999_0 := (hV.keepc HS' e132999_0); have e132999_1 := (hV.keepc HS' e132999_1); have e132999_2 := (hV.keepc HS' e132999_2); (try simp only [Int.toNat_zero, Int.reduceToNat, Int.toNat_natCast, Nat.zero_mul, Nat.one_mul, Nat.zero_add, Nat.add_zero, Addr.add_zero', Addr.add_succ', Nat.reduceMul, Nat.reduceAdd] at e132999_0 e132999_1 e132999_2); go_simp; with_reducible rfl
   rotate_left
   · simp only [Act.put, ptn]; rfl
   refine drq_of [(35, some 71), (36, some 72), (37, some 73)] ?_
   repeat (first | (refine drq_pure HT (v := ?_) (a' := ?_) rfl rfl (by kernel_rfl) (fun _ _ _ h => h) (.inl ⟨by rfl, ?_⟩) ?_ ?_; rotate_left; (intro w'; go_simp; with_reducible rfl); rotate_left; (simp only [Act.put, ptn]; rfl)))
   refine drq_end ?_
   refine dr_take 38 (some 74) HT HH (v := ?_) (a' := ?_) rfl rfl (by kernel_rfl) (fun _ _ _ h => h) (.inl ⟨by rfl, ?_⟩) ?_ ?_
   rotate_left
   · rintro w' ⟨rs', HS'⟩; have e137999_0 := (hV.keepc HS' e137999_0); have e137999_1 := (hV.keepc HS' e137999_1); have e137999_2 := (hV.keepc HS' e137999_2); (try simp only [Int.toNat_zero, Int.reduceToNat, Int.toNat_natCast, Nat.zero_mul, Nat.one_mul, Nat.zero_add, Nat.add_zero, Addr.add_zero', Addr.add_succ', Nat.reduceMul, Nat.reduceAdd] at e137999_0 e137999_1 e137999_2); go_simp; with_reducible rfl
   rotate_left
   · simp only [Act.put, ptn]; rfl
   refine drq_of [(40, some 76), (41, some 77), (42, some 78)] ?_
   repeat (first | (refine drq_pure HT (v := ?_) (a' := ?_) rfl rfl (by kernel_rfl) (fun _ _ _ h => h) (.inl ⟨by rfl, ?_⟩) ?_ ?_; rotate_left; (intro w'; go_simp; with_reducible rfl); rotate_left; (simp only [Act.put, ptn]; rfl)))
   refine drq_end ?_
   refine dr_take 43 (some 79) HT HH (v := ?_) (a' := ?_) rfl rfl (by kernel_rfl) (fun _ _ _ h => h) (.inl ⟨by rfl, ?_⟩) ?_ ?_
   rotate_left
   · rintro w' ⟨rs', HS'⟩; have e142999_0 := (hV.keepc HS' e142999_0); have e142999_1 := (hV.keepc HS' e142999_1); have e142999_2 := (hV.keepc HS' e142999_2); (try simp only [Int.toNat_zero, Int.reduceToNat, Int.toNat_natCast, Nat.zero_mul, Nat.one_mul, Nat.zero_add, Nat.add_zero, Addr.add_zero', Addr.add_succ', Nat.reduceMul, Nat.reduceAdd] at e142999_0 e142999_1 e142999_2); go_simp; with_reducible rfl
   rotate_left
   · simp only [Act.put, ptn]; rfl
   refine dr_any [4, 46] HT (by kernel_rfl) (by decide) (AllReadyL.cons rfl (by decide) (fun K hK => ?_) (AllReadyL.cons rfl (by decide) (fun K hK => ?_) AllReadyL.nil))
   · refine HS.lend [1] (by decide) [.box g22 [.bool t31.2.f0] 86] rfl (fun A' HL HD HA HB => ?_); refine goes_ Tryd.func55 (by kernel_rfl) rfl #[.pointer (some ⟨g22, 0, none⟩), .agg #[.int .i64 ((rd_T65 y26 0).f0), .string ((rd_T65 y26 0).f1), .slice B102999_2 (rd_T65 y26 0).f2.length d102999_2]] (by rfl) rfl rfl (by simp only [mpn]; rfl) ?_; refine (impl_opener_num_0.calls ht104001.out y102999_2 m102999_2 (hV.lend HS HL) HA).mono ?_; rintro _ wt104001 ⟨rfl, HQ⟩; refine ⟨_, rfl, ?_⟩; replace HS := HB _ _ HQ (Nat.le_of_ble_eq_true rfl); clear HQ HA HB HL HD; (try simp only [hpn, hpm] at HS); (try clear F)
     (try simp only [hpn, hpm] at HS)
     have F := HS.boxes; simp only [bxn] at F
     refine hK.out _ _ ⟨[], HS.arr [some 0, none] (by decide)⟩ (fun HH => ?_)
     clear hK K
     refine norm_ (a' := ?_) ?_ ?_
     rotate_left
     · show Act.put _ (some 40) _ = _; simp only [Act.put, ptn, c12]; rfl
     refine dr_any [9, 46] HT (by kernel_rfl) (by decide) (AllReadyL.cons rfl (by decide) (fun K hK => ?_) (AllReadyL.cons rfl (by decide) (fun K hK => ?_) AllReadyL.nil))
     · refine HS.lend [1] (by decide) [.box g22 [.bool t104001.2.f0] 86] rfl (fun A' HL HD HA HB => ?_); refine goes_ Tryd.func54 (by kernel_rfl) rfl #[.pointer (some ⟨g22, 0, none⟩), .agg #[.int .i64 ((rd_T65 y26 1).f0), .string ((rd_T65 y26 1).f1), .slice B107999_2 (rd_T65 y26 1).f2.length d107999_2], .int .i64 12] (by rfl) rfl rfl (by simp only [mpn]; rfl) ?_; refine (impl_opener_text_0.calls ht109001.out y107999_2 m107999_2 (hV.lend HS HL) HA).mono ?_; rintro _ wt109001 ⟨rfl, HQ⟩; refine ⟨_, rfl, ?_⟩; replace HS := HB _ _ HQ (Nat.le_of_ble_eq_true rfl); clear HQ HA HB HL HD; (try simp only [hpn, hpm] at HS); (try clear F)
       (try simp only [hpn, hpm] at HS)
       have F := HS.boxes; simp only [bxn] at F
       refine hK.out _ _ ⟨[], HS.arr [some 0, none] (by decide)⟩ (fun HH => ?_)
       clear hK K
       refine norm_ (a' := ?_) ?_ ?_
       rotate_left
       · show Act.put _ (some 45) _ = _; simp only [Act.put, ptn, c12]; rfl
       refine dr_any [14, 46] HT (by kernel_rfl) (by decide) (AllReadyL.cons rfl (by decide) (fun K hK => ?_) (AllReadyL.cons rfl (by decide) (fun K hK => ?_) AllReadyL.nil))
       · refine HS.lend [1] (by decide) [.box g22 [.bool t109001.2.f0] 86] rfl (fun A' HL HD HA HB => ?_); refine goes_ Tryd.func55 (by kernel_rfl) rfl #[.pointer (some ⟨g22, 0, none⟩), .agg #[.int .i64 ((rd_T65 y34 0).f0), .string ((rd_T65 y34 0).f1), .slice B112999_2 (rd_T65 y34 0).f2.length d112999_2]] (by rfl) rfl rfl (by simp only [mpn]; rfl) ?_; refine (impl_opener_num_0.calls ht114001.out y112999_2 m112999_2 (hV.lend HS HL) HA).mono ?_; rintro _ wt114001 ⟨rfl, HQ⟩; refine ⟨_, rfl, ?_⟩; replace HS := HB _ _ HQ (Nat.le_of_ble_eq_true rfl); clear HQ HA HB HL HD; (try simp only [hpn, hpm] at HS); (try clear F)
         (try simp only [hpn, hpm] at HS)
         have F := HS.boxes; simp only [bxn] at F
         refine hK.out _ _ ⟨[], HS.arr [some 0, none] (by decide)⟩ (fun HH => ?_)
         clear hK K
         refine norm_ (a' := ?_) ?_ ?_
         rotate_left
         · show Act.put _ (some 50) _ = _; simp only [Act.put, ptn, c12]; rfl
         refine dr_any [19, 46] HT (by kernel_rfl) (by decide) (AllReadyL.cons rfl (by decide) (fun K hK => ?_) (AllReadyL.cons rfl (by decide) (fun K hK => ?_) AllReadyL.nil))
         · refine HS.lend [1] (by decide) [.box g22 [.bool t114001.2.f0] 86] rfl (fun A' HL HD HA HB => ?_); refine goes_ Tryd.func55 (by kernel_rfl) rfl #[.pointer (some ⟨g22, 0, none⟩), .agg #[.int .i64 ((rd_T65 y34 1).f0), .string ((rd_T65 y34 1).f1), .slice B117999_2 (rd_T65 y34 1).f2.length d117999_2]] (by rfl) rfl rfl (by simp only [mpn]; rfl) ?_; refine (impl_opener_num_0.calls ht119001.out y117999_2 m117999_2 (hV.lend HS HL) HA).mono ?_; rintro _ wt119001 ⟨rfl, HQ⟩; refine ⟨_, rfl, ?_⟩; replace HS := HB _ _ HQ (Nat.le_of_ble_eq_true rfl); clear HQ HA HB HL HD; (try simp only [hpn, hpm] at HS); (try clear F)
           (try simp only [hpn, hpm] at HS)
           have F := HS.boxes; simp only [bxn] at F
           refine hK.out _ _ ⟨[], HS.arr [some 0, none] (by decide)⟩ (fun HH => ?_)
           clear hK K
           refine norm_ (a' := ?_) ?_ ?_
           rotate_left
           · show Act.put _ (some 55) _ = _; simp only [Act.put, ptn, c12]; rfl
           refine dr_any [24, 46] HT (by kernel_rfl) (by decide) (AllReadyL.cons rfl (by decide) (fun K hK => ?_) (AllReadyL.cons rfl (by decide) (fun K hK => ?_) AllReadyL.nil))
           · refine HS.lend [1] (by decide) [.box g22 [.bool t119001.2.f0] 86] rfl (fun A' HL HD HA HB => ?_); refine goes_ Tryd.func54 (by kernel_rfl) rfl #[.pointer (some ⟨g22, 0, none⟩), .agg #[.int .i64 ((rd_T65 y26 3).f0), .string ((rd_T65 y26 3).f1), .slice B122999_2 (rd_T65 y26 3).f2.length d122999_2], .int .i64 12] (by rfl) rfl rfl (by simp only [mpn]; rfl) ?_; refine (impl_opener_text_0.calls ht124001.out y122999_2 m122999_2 (hV.lend HS HL) HA).mono ?_; rintro _ wt124001 ⟨rfl, HQ⟩; refine ⟨_, rfl, ?_⟩; replace HS := HB _ _ HQ (Nat.le_of_ble_eq_true rfl); clear HQ HA HB HL HD; (try simp only [hpn, hpm] at HS); (try clear F)
             (try simp only [hpn, hpm] at HS)
             have F := HS.boxes; simp only [bxn] at F
             refine hK.out _ _ ⟨[], HS.arr [some 0, none] (by decide)⟩ (fun HH => ?_)
             clear hK K
             refine norm_ (a' := ?_) ?_ ?_
             rotate_left
             · show Act.put _ (some 60) _ = _; simp only [Act.put, ptn, c12]; rfl
             refine dr_any [29, 46] HT (by kernel_rfl) (by decide) (AllReadyL.cons rfl (by decide) (fun K hK => ?_) (AllReadyL.cons rfl (by decide) (fun K hK => ?_) AllReadyL.nil))
             · refine HS.lend [1] (by decide) [.box g22 [.bool t124001.2.f0] 86] rfl (fun A' HL HD HA HB => ?_); refine goes_ Tryd.func54 (by kernel_rfl) rfl #[.pointer (some ⟨g22, 0, none⟩), .agg #[.int .i64 ((rd_T65 y26 4).f0), .string ((rd_T65 y26 4).f1), .slice B127999_2 (rd_T65 y26 4).f2.length d127999_2], .int .i64 4] (by rfl) rfl rfl (by simp only [mpn]; rfl) ?_; refine (impl_opener_text_0.calls ht129001.out y127999_2 m127999_2 (hV.lend HS HL) HA).mono ?_; rintro _ wt129001 ⟨rfl, HQ⟩; refine ⟨_, rfl, ?_⟩; replace HS := HB _ _ HQ (Nat.le_of_ble_eq_true rfl); clear HQ HA HB HL HD; (try simp only [hpn, hpm] at HS); (try clear F)
               (try simp only [hpn, hpm] at HS)
               have F := HS.boxes; simp only [bxn] at F
               refine hK.out _ _ ⟨[], HS.arr [some 0, none] (by decide)⟩ (fun HH => ?_)
               clear hK K
               refine norm_ (a' := ?_) ?_ ?_
               rotate_left
               · show Act.put _ (some 65) _ = _; simp only [Act.put, ptn, c12]; rfl
               refine dr_any [34, 46] HT (by kernel_rfl) (by decide) (AllReadyL.cons rfl (by decide) (fun K hK => ?_) (AllReadyL.cons rfl (by decide) (fun K hK => ?_) AllReadyL.nil))
               · refine HS.lend [1] (by decide) [.box g22 [.bool t129001.2.f0] 86] rfl (fun A' HL HD HA HB => ?_); refine goes_ Tryd.func61 (by kernel_rfl) rfl #[.pointer (some ⟨g22, 0, none⟩), .agg #[.int .i64 ((rd_T65 y26 5).f0), .string ((rd_T65 y26 5).f1), .slice B132999_2 (rd_T65 y26 5).f2.length d132999_2]] (by rfl) rfl rfl (by simp only [mpn]; rfl) ?_; refine (impl_opener_flag_0.calls ht134001.out y132999_2 m132999_2 (hV.lend HS HL) HA).mono ?_; rintro _ wt134001 ⟨rfl, HQ⟩; refine ⟨_, rfl, ?_⟩; replace HS := HB _ _ HQ (Nat.le_of_ble_eq_true rfl); clear HQ HA HB HL HD; (try simp only [hpn, hpm] at HS); (try clear F)
                 (try simp only [hpn, hpm] at HS)
                 have F := HS.boxes; simp only [bxn] at F
                 refine hK.out _ _ ⟨[], HS.arr [some 0, none] (by decide)⟩ (fun HH => ?_)
                 clear hK K
                 refine norm_ (a' := ?_) ?_ ?_
                 rotate_left
                 · show Act.put _ (some 70) _ = _; simp only [Act.put, ptn, c12]; rfl
                 refine dr_any [39, 46] HT (by kernel_rfl) (by decide) (AllReadyL.cons rfl (by decide) (fun K hK => ?_) (AllReadyL.cons rfl (by decide) (fun K hK => ?_) AllReadyL.nil))
                 · refine HS.lend [1] (by decide) [.box g22 [.bool t134001.2.f0] 86] rfl (fun A' HL HD HA HB => ?_); refine goes_ Tryd.func55 (by kernel_rfl) rfl #[.pointer (some ⟨g22, 0, none⟩), .agg #[.int .i64 ((rd_T65 y26 6).f0), .string ((rd_T65 y26 6).f1), .slice B137999_2 (rd_T65 y26 6).f2.length d137999_2]] (by rfl) rfl rfl (by simp only [mpn]; rfl) ?_; refine (impl_opener_num_0.calls ht139001.out y137999_2 m137999_2 (hV.lend HS HL) HA).mono ?_; rintro _ wt139001 ⟨rfl, HQ⟩; refine ⟨_, rfl, ?_⟩; replace HS := HB _ _ HQ (Nat.le_of_ble_eq_true rfl); clear HQ HA HB HL HD; (try simp only [hpn, hpm] at HS); (try clear F)
                   (try simp only [hpn, hpm] at HS)
                   have F := HS.boxes; simp only [bxn] at F
                   refine hK.out _ _ ⟨[], HS.arr [some 0, none] (by decide)⟩ (fun HH => ?_)
                   clear hK K
                   refine norm_ (a' := ?_) ?_ ?_
                   rotate_left
                   · show Act.put _ (some 75) _ = _; simp only [Act.put, ptn, c12]; rfl
                   refine dr_any [44, 46] HT (by kernel_rfl) (by decide) (AllReadyL.cons rfl (by decide) (fun K hK => ?_) (AllReadyL.cons rfl (by decide) (fun K hK => ?_) AllReadyL.nil))
                   · refine HS.lend [1] (by decide) [.box g22 [.bool t139001.2.f0] 86] rfl (fun A' HL HD HA HB => ?_); refine goes_ Tryd.func55 (by kernel_rfl) rfl #[.pointer (some ⟨g22, 0, none⟩), .agg #[.int .i64 ((rd_T65 y26 7).f0), .string ((rd_T65 y26 7).f1), .slice B142999_2 (rd_T65 y26 7).f2.length d142999_2]] (by rfl) rfl rfl (by simp only [mpn]; rfl) ?_; refine (impl_opener_num_0.calls ht144001.out y142999_2 m142999_2 (hV.lend HS HL) HA).mono ?_; rintro _ wt144001 ⟨rfl, HQ⟩; refine ⟨_, rfl, ?_⟩; replace HS := HB _ _ HQ (Nat.le_of_ble_eq_true rfl); clear HQ HA HB HL HD; (try simp only [hpn, hpm] at HS); (try clear F)
                     (try simp only [hpn, hpm] at HS)
                     have F := HS.boxes; simp only [bxn] at F
                     refine hK.out _ _ ⟨[], HS.arr [some 0, none] (by decide)⟩ (fun HH => ?_)
                     clear hK K
                     refine norm_ (a' := ?_) ?_ ?_
                     rotate_left
                     · show Act.put _ (some 80) _ = _; simp only [Act.put, ptn, c12]; rfl
                     refine drq_of [(45, some 81)] ?_
                     repeat (first | (refine drq_pure HT (v := ?_) (a' := ?_) rfl rfl (by kernel_rfl) (fun _ _ _ h => h) (.inl ⟨by rfl, ?_⟩) ?_ ?_; rotate_left; (intro w'; go_simp; with_reducible rfl); rotate_left; (simp only [Act.put, ptn]; rfl)))
                     refine drq_end ?_
                     refine dr_one 46 HT rfl (by kernel_rfl) (by decide) (fun K hK => ?_)
                     refine if_wp (by rfl) ?_; refine wp_box HS (by first | (go_simp; done) | (go_simp; rfl)) rfl ?_; clear HS; (try clear F); intro g10 w10 HS
                     (try simp only [hpn, hpm] at HS)
                     have F := HS.boxes; simp only [bxn] at F
                     refine hK.out _ _ ⟨[], HS.arr [some 0, none] (by decide)⟩ (fun HH => ?_)
                     clear hK K
                     refine norm_ (a' := ?_) ?_ ?_
                     rotate_left
                     · show Act.put _ (some 10) _ = _; simp only [Act.put, ptn, c12]; rfl
                     refine dr_last 47 HT rfl (by kernel_rfl) (by decide) (fun K hK => ?_)
                     refine if_wp (by rfl) ?_; refine wp_store 2 0 HS (seg := [.int .i64 t104001.1, .string t109001.1, .string t124001.1, .int .i64 t114001.1, .int .i64 t119001.1, .string t129001.1, .bool t134001.1, .int .i64 t139001.1, .int .i64 t144001.1, .slice none 0 0, .slice none 0 0, .slice none 0 0, .string (⟨#[]⟩ : ByteArray)]) rfl rfl rfl rfl rfl rfl (by kernel_rfl) (by simp [wrt]) (by simp [Value.oneCell']) ?_; clear HS; (try clear F); intro w147001 HS
                     (try simp only [hpn, hpm] at HS)
                     have F := HS.boxes; simp only [bxn] at F
                     refine hK.out _ _ ?_
                     clear hK K
                     refine norm_ ?_ (hJ (g10, .pointer (some ad30), .agg #[.int .i64 ((rd_T65 y26 0).f0), .string ((rd_T65 y26 0).f1), .slice B102999_2 (rd_T65 y26 0).f2.length d102999_2], .pointer (some (ad30.add 3)), .agg #[.int .i64 ((rd_T65 y26 1).f0), .string ((rd_T65 y26 1).f1), .slice B107999_2 (rd_T65 y26 1).f2.length d107999_2], .pointer (some ad112999), .agg #[.int .i64 ((rd_T65 y34 0).f0), .string ((rd_T65 y34 0).f1), .slice B112999_2 (rd_T65 y34 0).f2.length d112999_2], .pointer (some (ad112999.add 3)), .agg #[.int .i64 ((rd_T65 y34 1).f0), .string ((rd_T65 y34 1).f1), .slice B117999_2 (rd_T65 y34 1).f2.length d117999_2], .pointer (some (ad30.add 9)), .agg #[.int .i64 ((rd_T65 y26 3).f0), .string ((rd_T65 y26 3).f1), .slice B122999_2 (rd_T65 y26 3).f2.length d122999_2], .pointer (some (ad30.add 12)), .agg #[.int .i64 ((rd_T65 y26 4).f0), .string ((rd_T65 y26 4).f1), .slice B127999_2 (rd_T65 y26 4).f2.length d127999_2], .pointer (some (ad30.add 15)), .agg #[.int .i64 ((rd_T65 y26 5).f0), .string ((rd_T65 y26 5).f1), .slice B132999_2 (rd_T65 y26 5).f2.length d132999_2], .pointer (some (ad30.add 18)), .agg #[.int .i64 ((rd_T65 y26 6).f0), .string ((rd_T65 y26 6).f1), .slice B137999_2 (rd_T65 y26 6).f2.length d137999_2], .pointer (some (ad30.add 21)), .agg #[.int .i64 ((rd_T65 y26 7).f0), .string ((rd_T65 y26 7).f1), .slice B142999_2 (rd_T65 y26 7).f2.length d142999_2]) _ (HS.arr [some 0, some 1, some 2] (by decide)))
                     simp only [putAll, Act.put, ptn, c12]
                     (try rfl)
                   · refine if_wp (by rfl) ?_; refine wp_box HS (by first | (go_simp; done) | (go_simp; rfl)) rfl ?_; clear HS; (try clear F); intro g10 w10 HS
                     (try simp only [hpn, hpm] at HS)
                     have F := HS.boxes; simp only [bxn] at F
                     refine hK.out _ _ ⟨[], HS.arr [some 0, none] (by decide)⟩ (fun HH => ?_)
                     clear hK K
                     refine norm_ (a' := ?_) ?_ ?_
                     rotate_left
                     · show Act.put _ (some 10) _ = _; simp only [Act.put, ptn, c12]; rfl
                     refine dr_one 44 HT rfl (by kernel_rfl) (by decide) (fun K hK => ?_)
                     refine HS.lend [1] (by decide) [.box g22 [.bool t139001.2.f0] 86] rfl (fun A' HL HD HA HB => ?_); refine goes_ Tryd.func55 (by kernel_rfl) rfl #[.pointer (some ⟨g22, 0, none⟩), .agg #[.int .i64 ((rd_T65 y26 7).f0), .string ((rd_T65 y26 7).f1), .slice B142999_2 (rd_T65 y26 7).f2.length d142999_2]] (by rfl) rfl rfl (by simp only [mpn]; rfl) ?_; refine (impl_opener_num_0.calls ht144001.out y142999_2 m142999_2 (hV.lend HS HL) HA).mono ?_; rintro _ wt144001 ⟨rfl, HQ⟩; refine ⟨_, rfl, ?_⟩; replace HS := HB _ _ HQ (Nat.le_of_ble_eq_true rfl); clear HQ HA HB HL HD; (try simp only [hpn, hpm] at HS); (try clear F)
                     (try simp only [hpn, hpm] at HS)
                     have F := HS.boxes; simp only [bxn] at F
                     refine hK.out _ _ ⟨[], HS.arr [some 0, none] (by decide)⟩ (fun HH => ?_)
                     clear hK K
                     refine norm_ (a' := ?_) ?_ ?_
                     rotate_left
                     · show Act.put _ (some 80) _ = _; simp only [Act.put, ptn, c12]; rfl
                     refine drq_of [(45, some 81)] ?_
                     repeat (first | (refine drq_pure HT (v := ?_) (a' := ?_) rfl rfl (by kernel_rfl) (fun _ _ _ h => h) (.inl ⟨by rfl, ?_⟩) ?_ ?_; rotate_left; (intro w'; go_simp; with_reducible rfl); rotate_left; (simp only [Act.put, ptn]; rfl)))
                     refine drq_end ?_
                     refine dr_last 47 HT rfl (by kernel_rfl) (by decide) (fun K hK => ?_)
                     refine if_wp (by rfl) ?_; refine wp_store 2 0 HS (seg := [.int .i64 t104001.1, .string t109001.1, .string t124001.1, .int .i64 t114001.1, .int .i64 t119001.1, .string t129001.1, .bool t134001.1, .int .i64 t139001.1, .int .i64 t144001.1, .slice none 0 0, .slice none 0 0, .slice none 0 0, .string (⟨#[]⟩ : ByteArray)]) rfl rfl rfl rfl rfl rfl (by kernel_rfl) (by simp [wrt]) (by simp [Value.oneCell']) ?_; clear HS; (try clear F); intro w147001 HS
                     (try simp only [hpn, hpm] at HS)
                     have F := HS.boxes; simp only [bxn] at F
                     refine hK.out _ _ ?_
                     clear hK K
                     refine norm_ ?_ (hJ (g10, .pointer (some ad30), .agg #[.int .i64 ((rd_T65 y26 0).f0), .string ((rd_T65 y26 0).f1), .slice B102999_2 (rd_T65 y26 0).f2.length d102999_2], .pointer (some (ad30.add 3)), .agg #[.int .i64 ((rd_T65 y26 1).f0), .string ((rd_T65 y26 1).f1), .slice B107999_2 (rd_T65 y26 1).f2.length d107999_2], .pointer (some ad112999), .agg #[.int .i64 ((rd_T65 y34 0).f0), .string ((rd_T65 y34 0).f1), .slice B112999_2 (rd_T65 y34 0).f2.length d112999_2], .pointer (some (ad112999.add 3)), .agg #[.int .i64 ((rd_T65 y34 1).f0), .string ((rd_T65 y34 1).f1), .slice B117999_2 (rd_T65 y34 1).f2.length d117999_2], .pointer (some (ad30.add 9)), .agg #[.int .i64 ((rd_T65 y26 3).f0), .string ((rd_T65 y26 3).f1), .slice B122999_2 (rd_T65 y26 3).f2.length d122999_2], .pointer (some (ad30.add 12)), .agg #[.int .i64 ((rd_T65 y26 4).f0), .string ((rd_T65 y26 4).f1), .slice B127999_2 (rd_T65 y26 4).f2.length d127999_2], .pointer (some (ad30.add 15)), .agg #[.int .i64 ((rd_T65 y26 5).f0), .string ((rd_T65 y26 5).f1), .slice B132999_2 (rd_T65 y26 5).f2.length d132999_2], .pointer (some (ad30.add 18)), .agg #[.int .i64 ((rd_T65 y26 6).f0), .string ((rd_T65 y26 6).f1), .slice B137999_2 (rd_T65 y26 6).f2.length d137999_2], .pointer (some (ad30.add 21)), .agg #[.int .i64 ((rd_T65 y26 7).f0), .string ((rd_T65 y26 7).f1), .slice B142999_2 (rd_T65 y26 7).f2.length d142999_2]) _ (HS.arr [some 0, some 1, some 2] (by decide)))
                     simp only [putAll, Act.put, ptn, c12]
                     (try rfl)
                 · refine if_wp (by rfl) ?_; refine wp_box HS (by first | (go_simp; done) | (go_simp; rfl)) rfl ?_; clear HS; (try clear F); intro g10 w10 HS
                   (try simp only [hpn, hpm] at HS)
                   have F := HS.boxes; simp only [bxn] at F
                   refine hK.out _ _ ⟨[], HS.arr [some 0, none] (by decide)⟩ (fun HH => ?_)
                   clear hK K
                   refine norm_ (a' := ?_) ?_ ?_
                   rotate_left
                   · show Act.put _ (some 10) _ = _; simp only [Act.put, ptn, c12]; rfl
                   refine dr_one 39 HT rfl (by kernel_rfl) (by decide) (fun K hK => ?_)
                   refine HS.lend [1] (by decide) [.box g22 [.bool t134001.2.f0] 86] rfl (fun A' HL HD HA HB => ?_); refine goes_ Tryd.func55 (by kernel_rfl) rfl #[.pointer (some ⟨g22, 0, none⟩), .agg #[.int .i64 ((rd_T65 y26 6).f0), .string ((rd_T65 y26 6).f1), .slice B137999_2 (rd_T65 y26 6).f2.length d137999_2]] (by rfl) rfl rfl (by simp only [mpn]; rfl) ?_; refine (impl_opener_num_0.calls ht139001.out y137999_2 m137999_2 (hV.lend HS HL) HA).mono ?_; rintro _ wt139001 ⟨rfl, HQ⟩; refine ⟨_, rfl, ?_⟩; replace HS := HB _ _ HQ (Nat.le_of_ble_eq_true rfl); clear HQ HA HB HL HD; (try simp only [hpn, hpm] at HS); (try clear F)
                   (try simp only [hpn, hpm] at HS)
                   have F := HS.boxes; simp only [bxn] at F
                   refine hK.out _ _ ⟨[], HS.arr [some 0, none] (by decide)⟩ (fun HH => ?_)
                   clear hK K
                   refine norm_ (a' := ?_) ?_ ?_
                   rotate_left
                   · show Act.put _ (some 75) _ = _; simp only [Act.put, ptn, c12]; rfl
                   refine dr_one 44 HT rfl (by kernel_rfl) (by decide) (fun K hK => ?_)
                   refine HS.lend [1] (by decide) [.box g22 [.bool t139001.2.f0] 86] rfl (fun A' HL HD HA HB => ?_); refine goes_ Tryd.func55 (by kernel_rfl) rfl #[.pointer (some ⟨g22, 0, none⟩), .agg #[.int .i64 ((rd_T65 y26 7).f0), .string ((rd_T65 y26 7).f1), .slice B142999_2 (rd_T65 y26 7).f2.length d142999_2]] (by rfl) rfl rfl (by simp only [mpn]; rfl) ?_; refine (impl_opener_num_0.calls ht144001.out y142999_2 m142999_2 (hV.lend HS HL) HA).mono ?_; rintro _ wt144001 ⟨rfl, HQ⟩; refine ⟨_, rfl, ?_⟩; replace HS := HB _ _ HQ (Nat.le_of_ble_eq_true rfl); clear HQ HA HB HL HD; (try simp only [hpn, hpm] at HS); (try clear F)
                   (try simp only [hpn, hpm] at HS)
                   have F := HS.boxes; simp only [bxn] at F
                   refine hK.out _ _ ⟨[], HS.arr [some 0, none] (by decide)⟩ (fun HH => ?_)
                   clear hK K
                   refine norm_ (a' := ?_) ?_ ?_
                   rotate_left
                   · show Act.put _ (some 80) _ = _; simp only [Act.put, ptn, c12]; rfl
                   refine drq_of [(45, some 81)] ?_
                   repeat (first | (refine drq_pure HT (v := ?_) (a' := ?_) rfl rfl (by kernel_rfl) (fun _ _ _ h => h) (.inl ⟨by rfl, ?_⟩) ?_ ?_; rotate_left; (intro w'; go_simp; with_reducible rfl); rotate_left; (simp only [Act.put, ptn]; rfl)))
                   refine drq_end ?_
                   refine dr_last 47 HT rfl (by kernel_rfl) (by decide) (fun K hK => ?_)
                   refine if_wp (by rfl) ?_; refine wp_store 2 0 HS (seg := [.int .i64 t104001.1, .string t109001.1, .string t124001.1, .int .i64 t114001.1, .int .i64 t119001.1, .string t129001.1, .bool t134001.1, .int .i64 t139001.1, .int .i64 t144001.1, .slice none 0 0, .slice none 0 0, .slice none 0 0, .string (⟨#[]⟩ : ByteArray)]) rfl rfl rfl rfl rfl rfl (by kernel_rfl) (by simp [wrt]) (by simp [Value.oneCell']) ?_; clear HS; (try clear F); intro w147001 HS
                   (try simp only [hpn, hpm] at HS)
                   have F := HS.boxes; simp only [bxn] at F
                   refine hK.out _ _ ?_
                   clear hK K
                   refine norm_ ?_ (hJ (g10, .pointer (some ad30), .agg #[.int .i64 ((rd_T65 y26 0).f0), .string ((rd_T65 y26 0).f1), .slice B102999_2 (rd_T65 y26 0).f2.length d102999_2], .pointer (some (ad30.add 3)), .agg #[.int .i64 ((rd_T65 y26 1).f0), .string ((rd_T65 y26 1).f1), .slice B107999_2 (rd_T65 y26 1).f2.length d107999_2], .pointer (some ad112999), .agg #[.int .i64 ((rd_T65 y34 0).f0), .string ((rd_T65 y34 0).f1), .slice B112999_2 (rd_T65 y34 0).f2.length d112999_2], .pointer (some (ad112999.add 3)), .agg #[.int .i64 ((rd_T65 y34 1).f0), .string ((rd_T65 y34 1).f1), .slice B117999_2 (rd_T65 y34 1).f2.length d117999_2], .pointer (some (ad30.add 9)), .agg #[.int .i64 ((rd_T65 y26 3).f0), .string ((rd_T65 y26 3).f1), .slice B122999_2 (rd_T65 y26 3).f2.length d122999_2], .pointer (some (ad30.add 12)), .agg #[.int .i64 ((rd_T65 y26 4).f0), .string ((rd_T65 y26 4).f1), .slice B127999_2 (rd_T65 y26 4).f2.length d127999_2], .pointer (some (ad30.add 15)), .agg #[.int .i64 ((rd_T65 y26 5).f0), .string ((rd_T65 y26 5).f1), .slice B132999_2 (rd_T65 y26 5).f2.length d132999_2], .pointer (some (ad30.add 18)), .agg #[.int .i64 ((rd_T65 y26 6).f0), .string ((rd_T65 y26 6).f1), .slice B137999_2 (rd_T65 y26 6).f2.length d137999_2], .pointer (some (ad30.add 21)), .agg #[.int .i64 ((rd_T65 y26 7).f0), .string ((rd_T65 y26 7).f1), .slice B142999_2 (rd_T65 y26 7).f2.length d142999_2]) _ (HS.arr [some 0, some 1, some 2] (by decide)))
                   simp only [putAll, Act.put, ptn, c12]
                   (try rfl)
               · refine if_wp (by rfl) ?_; refine wp_box HS (by first | (go_simp; done) | (go_simp; rfl)) rfl ?_; clear HS; (try clear F); intro g10 w10 HS
                 (try simp only [hpn, hpm] at HS)
                 have F := HS.boxes; simp only [bxn] at F
                 refine hK.out _ _ ⟨[], HS.arr [some 0, none] (by decide)⟩ (fun HH => ?_)
                 clear hK K
                 refine norm_ (a' := ?_) ?_ ?_
                 rotate_left
                 · show Act.put _ (some 10) _ = _; simp only [Act.put, ptn, c12]; rfl
                 refine dr_one 34 HT rfl (by kernel_rfl) (by decide) (fun K hK => ?_)
                 refine HS.lend [1] (by decide) [.box g22 [.bool t129001.2.f0] 86] rfl (fun A' HL HD HA HB => ?_); refine goes_ Tryd.func61 (by kernel_rfl) rfl #[.pointer (some ⟨g22, 0, none⟩), .agg #[.int .i64 ((rd_T65 y26 5).f0), .string ((rd_T65 y26 5).f1), .slice B132999_2 (rd_T65 y26 5).f2.length d132999_2]] (by rfl) rfl rfl (by simp only [mpn]; rfl) ?_; refine (impl_opener_flag_0.calls ht134001.out y132999_2 m132999_2 (hV.lend HS HL) HA).mono ?_; rintro _ wt134001 ⟨rfl, HQ⟩; refine ⟨_, rfl, ?_⟩; replace HS := HB _ _ HQ (Nat.le_of_ble_eq_true rfl); clear HQ HA HB HL HD; (try simp only [hpn, hpm] at HS); (try clear F)
                 (try simp only [hpn, hpm] at HS)
                 have F := HS.boxes; simp only [bxn] at F
                 refine hK.out _ _ ⟨[], HS.arr [some 0, none] (by decide)⟩ (fun HH => ?_)
                 clear hK K
                 refine norm_ (a' := ?_) ?_ ?_
                 rotate_left
                 · show Act.put _ (some 70) _ = _; simp only [Act.put, ptn, c12]; rfl
                 refine dr_one 39 HT rfl (by kernel_rfl) (by decide) (fun K hK => ?_)
                 refine HS.lend [1] (by decide) [.box g22 [.bool t134001.2.f0] 86] rfl (fun A' HL HD HA HB => ?_); refine goes_ Tryd.func55 (by kernel_rfl) rfl #[.pointer (some ⟨g22, 0, none⟩), .agg #[.int .i64 ((rd_T65 y26 6).f0), .string ((rd_T65 y26 6).f1), .slice B137999_2 (rd_T65 y26 6).f2.length d137999_2]] (by rfl) rfl rfl (by simp only [mpn]; rfl) ?_; refine (impl_opener_num_0.calls ht139001.out y137999_2 m137999_2 (hV.lend HS HL) HA).mono ?_; rintro _ wt139001 ⟨rfl, HQ⟩; refine ⟨_, rfl, ?_⟩; replace HS := HB _ _ HQ (Nat.le_of_ble_eq_true rfl); clear HQ HA HB HL HD; (try simp only [hpn, hpm] at HS); (try clear F)
                 (try simp only [hpn, hpm] at HS)
                 have F := HS.boxes; simp only [bxn] at F
                 refine hK.out _ _ ⟨[], HS.arr [some 0, none] (by decide)⟩ (fun HH => ?_)
                 clear hK K
                 refine norm_ (a' := ?_) ?_ ?_
                 rotate_left
                 · show Act.put _ (some 75) _ = _; simp only [Act.put, ptn, c12]; rfl
                 refine dr_one 44 HT rfl (by kernel_rfl) (by decide) (fun K hK => ?_)
                 refine HS.lend [1] (by decide) [.box g22 [.bool t139001.2.f0] 86] rfl (fun A' HL HD HA HB => ?_); refine goes_ Tryd.func55 (by kernel_rfl) rfl #[.pointer (some ⟨g22, 0, none⟩), .agg #[.int .i64 ((rd_T65 y26 7).f0), .string ((rd_T65 y26 7).f1), .slice B142999_2 (rd_T65 y26 7).f2.length d142999_2]] (by rfl) rfl rfl (by simp only [mpn]; rfl) ?_; refine (impl_opener_num_0.calls ht144001.out y142999_2 m142999_2 (hV.lend HS HL) HA).mono ?_; rintro _ wt144001 ⟨rfl, HQ⟩; refine ⟨_, rfl, ?_⟩; replace HS := HB _ _ HQ (Nat.le_of_ble_eq_true rfl); clear HQ HA HB HL HD; (try simp only [hpn, hpm] at HS); (try clear F)
                 (try simp only [hpn, hpm] at HS)
                 have F := HS.boxes; simp only [bxn] at F
                 refine hK.out _ _ ⟨[], HS.arr [some 0, none] (by decide)⟩ (fun HH => ?_)
                 clear hK K
                 refine norm_ (a' := ?_) ?_ ?_
                 rotate_left
                 · show Act.put _ (some 80) _ = _; simp only [Act.put, ptn, c12]; rfl
                 refine drq_of [(45, some 81)] ?_
                 repeat (first | (refine drq_pure HT (v := ?_) (a' := ?_) rfl rfl (by kernel_rfl) (fun _ _ _ h => h) (.inl ⟨by rfl, ?_⟩) ?_ ?_; rotate_left; (intro w'; go_simp; with_reducible rfl); rotate_left; (simp only [Act.put, ptn]; rfl)))
                 refine drq_end ?_
                 refine dr_last 47 HT rfl (by kernel_rfl) (by decide) (fun K hK => ?_)
                 refine if_wp (by rfl) ?_; refine wp_store 2 0 HS (seg := [.int .i64 t104001.1, .string t109001.1, .string t124001.1, .int .i64 t114001.1, .int .i64 t119001.1, .string t129001.1, .bool t134001.1, .int .i64 t139001.1, .int .i64 t144001.1, .slice none 0 0, .slice none 0 0, .slice none 0 0, .string (⟨#[]⟩ : ByteArray)]) rfl rfl rfl rfl rfl rfl (by kernel_rfl) (by simp [wrt]) (by simp [Value.oneCell']) ?_; clear HS; (try clear F); intro w147001 HS
                 (try simp only [hpn, hpm] at HS)
                 have F := HS.boxes; simp only [bxn] at F
                 refine hK.out _ _ ?_
                 clear hK K
                 refine norm_ ?_ (hJ (g10, .pointer (some ad30), .agg #[.int .i64 ((rd_T65 y26 0).f0), .string ((rd_T65 y26 0).f1), .slice B102999_2 (rd_T65 y26 0).f2.length d102999_2], .pointer (some (ad30.add 3)), .agg #[.int .i64 ((rd_T65 y26 1).f0), .string ((rd_T65 y26 1).f1), .slice B107999_2 (rd_T65 y26 1).f2.length d107999_2], .pointer (some ad112999), .agg #[.int .i64 ((rd_T65 y34 0).f0), .string ((rd_T65 y34 0).f1), .slice B112999_2 (rd_T65 y34 0).f2.length d112999_2], .pointer (some (ad112999.add 3)), .agg #[.int .i64 ((rd_T65 y34 1).f0), .string ((rd_T65 y34 1).f1), .slice B117999_2 (rd_T65 y34 1).f2.length d117999_2], .pointer (some (ad30.add 9)), .agg #[.int .i64 ((rd_T65 y26 3).f0), .string ((rd_T65 y26 3).f1), .slice B122999_2 (rd_T65 y26 3).f2.length d122999_2], .pointer (some (ad30.add 12)), .agg #[.int .i64 ((rd_T65 y26 4).f0), .string ((rd_T65 y26 4).f1), .slice B127999_2 (rd_T65 y26 4).f2.length d127999_2], .pointer (some (ad30.add 15)), .agg #[.int .i64 ((rd_T65 y26 5).f0), .string ((rd_T65 y26 5).f1), .slice B132999_2 (rd_T65 y26 5).f2.length d132999_2], .pointer (some (ad30.add 18)), .agg #[.int .i64 ((rd_T65 y26 6).f0), .string ((rd_T65 y26 6).f1), .slice B137999_2 (rd_T65 y26 6).f2.length d137999_2], .pointer (some (ad30.add 21)), .agg #[.int .i64 ((rd_T65 y26 7).f0), .string ((rd_T65 y26 7).f1), .slice B142999_2 (rd_T65 y26 7).f2.length d142999_2]) _ (HS.arr [some 0, some 1, some 2] (by decide)))
                 simp only [putAll, Act.put, ptn, c12]
                 (try rfl)
             · refine if_wp (by rfl) ?_; refine wp_box HS (by first | (go_simp; done) | (go_simp; rfl)) rfl ?_; clear HS; (try clear F); intro g10 w10 HS
               (try simp only [hpn, hpm] at HS)
               have F := HS.boxes; simp only [bxn] at F
               refine hK.out _ _ ⟨[], HS.arr [some 0, none] (by decide)⟩ (fun HH => ?_)
               clear hK K
               refine norm_ (a' := ?_) ?_ ?_
               rotate_left
               · show Act.put _ (some 10) _ = _; simp only [Act.put, ptn, c12]; rfl
               refine dr_one 29 HT rfl (by kernel_rfl) (by decide) (fun K hK => ?_)
               refine HS.lend [1] (by decide) [.box g22 [.bool t124001.2.f0] 86] rfl (fun A' HL HD HA HB => ?_); refine goes_ Tryd.func54 (by kernel_rfl) rfl #[.pointer (some ⟨g22, 0, none⟩), .agg #[.int .i64 ((rd_T65 y26 4).f0), .string ((rd_T65 y26 4).f1), .slice B127999_2 (rd_T65 y26 4).f2.length d127999_2], .int .i64 4] (by rfl) rfl rfl (by simp only [mpn]; rfl) ?_; refine (impl_opener_text_0.calls ht129001.out y127999_2 m127999_2 (hV.lend HS HL) HA).mono ?_; rintro _ wt129001 ⟨rfl, HQ⟩; refine ⟨_, rfl, ?_⟩; replace HS := HB _ _ HQ (Nat.le_of_ble_eq_true rfl); clear HQ HA HB HL HD; (try simp only [hpn, hpm] at HS); (try clear F)
               (try simp only [hpn, hpm] at HS)
               have F := HS.boxes; simp only [bxn] at F
               refine hK.out _ _ ⟨[], HS.arr [some 0, none] (by decide)⟩ (fun HH => ?_)
               clear hK K
               refine norm_ (a' := ?_) ?_ ?_
               rotate_left
               · show Act.put _ (some 65) _ = _; simp only [Act.put, ptn, c12]; rfl
               refine dr_one 34 HT rfl (by kernel_rfl) (by decide) (fun K hK => ?_)
               refine HS.lend [1] (by decide) [.box g22 [.bool t129001.2.f0] 86] rfl (fun A' HL HD HA HB => ?_); refine goes_ Tryd.func61 (by kernel_rfl) rfl #[.pointer (some ⟨g22, 0, none⟩), .agg #[.int .i64 ((rd_T65 y26 5).f0), .string ((rd_T65 y26 5).f1), .slice B132999_2 (rd_T65 y26 5).f2.length d132999_2]] (by rfl) rfl rfl (by simp only [mpn]; rfl) ?_; refine (impl_opener_flag_0.calls ht134001.out y132999_2 m132999_2 (hV.lend HS HL) HA).mono ?_; rintro _ wt134001 ⟨rfl, HQ⟩; refine ⟨_, rfl, ?_⟩; replace HS := HB _ _ HQ (Nat.le_of_ble_eq_true rfl); clear HQ HA HB HL HD; (try simp only [hpn, hpm] at HS); (try clear F)
               (try simp only [hpn, hpm] at HS)
               have F := HS.boxes; simp only [bxn] at F
               refine hK.out _ _ ⟨[], HS.arr [some 0, none] (by decide)⟩ (fun HH => ?_)
               clear hK K
               refine norm_ (a' := ?_) ?_ ?_
               rotate_left
               · show Act.put _ (some 70) _ = _; simp only [Act.put, ptn, c12]; rfl
               refine dr_one 39 HT rfl (by kernel_rfl) (by decide) (fun K hK => ?_)
               refine HS.lend [1] (by decide) [.box g22 [.bool t134001.2.f0] 86] rfl (fun A' HL HD HA HB => ?_); refine goes_ Tryd.func55 (by kernel_rfl) rfl #[.pointer (some ⟨g22, 0, none⟩), .agg #[.int .i64 ((rd_T65 y26 6).f0), .string ((rd_T65 y26 6).f1), .slice B137999_2 (rd_T65 y26 6).f2.length d137999_2]] (by rfl) rfl rfl (by simp only [mpn]; rfl) ?_; refine (impl_opener_num_0.calls ht139001.out y137999_2 m137999_2 (hV.lend HS HL) HA).mono ?_; rintro _ wt139001 ⟨rfl, HQ⟩; refine ⟨_, rfl, ?_⟩; replace HS := HB _ _ HQ (Nat.le_of_ble_eq_true rfl); clear HQ HA HB HL HD; (try simp only [hpn, hpm] at HS); (try clear F)
               (try simp only [hpn, hpm] at HS)
               have F := HS.boxes; simp only [bxn] at F
               refine hK.out _ _ ⟨[], HS.arr [some 0, none] (by decide)⟩ (fun HH => ?_)
               clear hK K
               refine norm_ (a' := ?_) ?_ ?_
               rotate_left
               · show Act.put _ (some 75) _ = _; simp only [Act.put, ptn, c12]; rfl
               refine dr_one 44 HT rfl (by kernel_rfl) (by decide) (fun K hK => ?_)
               refine HS.lend [1] (by decide) [.box g22 [.bool t139001.2.f0] 86] rfl (fun A' HL HD HA HB => ?_); refine goes_ Tryd.func55 (by kernel_rfl) rfl #[.pointer (some ⟨g22, 0, none⟩), .agg #[.int .i64 ((rd_T65 y26 7).f0), .string ((rd_T65 y26 7).f1), .slice B142999_2 (rd_T65 y26 7).f2.length d142999_2]] (by rfl) rfl rfl (by simp only [mpn]; rfl) ?_; refine (impl_opener_num_0.calls ht144001.out y142999_2 m142999_2 (hV.lend HS HL) HA).mono ?_; rintro _ wt144001 ⟨rfl, HQ⟩; refine ⟨_, rfl, ?_⟩; replace HS := HB _ _ HQ (Nat.le_of_ble_eq_true rfl); clear HQ HA HB HL HD; (try simp only [hpn, hpm] at HS); (try clear F)
               (try simp only [hpn, hpm] at HS)
               have F := HS.boxes; simp only [bxn] at F
               refine hK.out _ _ ⟨[], HS.arr [some 0, none] (by decide)⟩ (fun HH => ?_)
               clear hK K
               refine norm_ (a' := ?_) ?_ ?_
               rotate_left
               · show Act.put _ (some 80) _ = _; simp only [Act.put, ptn, c12]; rfl
               refine drq_of [(45, some 81)] ?_
               repeat (first | (refine drq_pure HT (v := ?_) (a' := ?_) rfl rfl (by kernel_rfl) (fun _ _ _ h => h) (.inl ⟨by rfl, ?_⟩) ?_ ?_; rotate_left; (intro w'; go_simp; with_reducible rfl); rotate_left; (simp only [Act.put, ptn]; rfl)))
               refine drq_end ?_
               refine dr_last 47 HT rfl (by kernel_rfl) (by decide) (fun K hK => ?_)
               refine if_wp (by rfl) ?_; refine wp_store 2 0 HS (seg := [.int .i64 t104001.1, .string t109001.1, .string t124001.1, .int .i64 t114001.1, .int .i64 t119001.1, .string t129001.1, .bool t134001.1, .int .i64 t139001.1, .int .i64 t144001.1, .slice none 0 0, .slice none 0 0, .slice none 0 0, .string (⟨#[]⟩ : ByteArray)]) rfl rfl rfl rfl rfl rfl (by kernel_rfl) (by simp [wrt]) (by simp [Value.oneCell']) ?_; clear HS; (try clear F); intro w147001 HS
               (try simp only [hpn, hpm] at HS)
               have F := HS.boxes; simp only [bxn] at F
               refine hK.out _ _ ?_
               clear hK K
               refine norm_ ?_ (hJ (g10, .pointer (some ad30), .agg #[.int .i64 ((rd_T65 y26 0).f0), .string ((rd_T65 y26 0).f1), .slice B102999_2 (rd_T65 y26 0).f2.length d102999_2], .pointer (some (ad30.add 3)), .agg #[.int .i64 ((rd_T65 y26 1).f0), .string ((rd_T65 y26 1).f1), .slice B107999_2 (rd_T65 y26 1).f2.length d107999_2], .pointer (some ad112999), .agg #[.int .i64 ((rd_T65 y34 0).f0), .string ((rd_T65 y34 0).f1), .slice B112999_2 (rd_T65 y34 0).f2.length d112999_2], .pointer (some (ad112999.add 3)), .agg #[.int .i64 ((rd_T65 y34 1).f0), .string ((rd_T65 y34 1).f1), .slice B117999_2 (rd_T65 y34 1).f2.length d117999_2], .pointer (some (ad30.add 9)), .agg #[.int .i64 ((rd_T65 y26 3).f0), .string ((rd_T65 y26 3).f1), .slice B122999_2 (rd_T65 y26 3).f2.length d122999_2], .pointer (some (ad30.add 12)), .agg #[.int .i64 ((rd_T65 y26 4).f0), .string ((rd_T65 y26 4).f1), .slice B127999_2 (rd_T65 y26 4).f2.length d127999_2], .pointer (some (ad30.add 15)), .agg #[.int .i64 ((rd_T65 y26 5).f0), .string ((rd_T65 y26 5).f1), .slice B132999_2 (rd_T65 y26 5).f2.length d132999_2], .pointer (some (ad30.add 18)), .agg #[.int .i64 ((rd_T65 y26 6).f0), .string ((rd_T65 y26 6).f1), .slice B137999_2 (rd_T65 y26 6).f2.length d137999_2], .pointer (some (ad30.add 21)), .agg #[.int .i64 ((rd_T65 y26 7).f0), .string ((rd_T65 y26 7).f1), .slice B142999_2 (rd_T65 y26 7).f2.length d142999_2]) _ (HS.arr [some 0, some 1, some 2] (by decide)))
               simp only [putAll, Act.put, ptn, c12]
               (try rfl)
           · refine if_wp (by rfl) ?_; refine wp_box HS (by first | (go_simp; done) | (go_simp; rfl)) rfl ?_; clear HS; (try clear F); intro g10 w10 HS
             (try simp only [hpn, hpm] at HS)
             have F := HS.boxes; simp only [bxn] at F
             refine hK.out _ _ ⟨[], HS.arr [some 0, none] (by decide)⟩ (fun HH => ?_)
             clear hK K
             refine norm_ (a' := ?_) ?_ ?_
             rotate_left
             · show Act.put _ (some 10) _ = _; simp only [Act.put, ptn, c12]; rfl
             refine dr_one 24 HT rfl (by kernel_rfl) (by decide) (fun K hK => ?_)
             refine HS.lend [1] (by decide) [.box g22 [.bool t119001.2.f0] 86] rfl (fun A' HL HD HA HB => ?_); refine goes_ Tryd.func54 (by kernel_rfl) rfl #[.pointer (some ⟨g22, 0, none⟩), .agg #[.int .i64 ((rd_T65 y26 3).f0), .string ((rd_T65 y26 3).f1), .slice B122999_2 (rd_T65 y26 3).f2.length d122999_2], .int .i64 12] (by rfl) rfl rfl (by simp only [mpn]; rfl) ?_; refine (impl_opener_text_0.calls ht124001.out y122999_2 m122999_2 (hV.lend HS HL) HA).mono ?_; rintro _ wt124001 ⟨rfl, HQ⟩; refine ⟨_, rfl, ?_⟩; replace HS := HB _ _ HQ (Nat.le_of_ble_eq_true rfl); clear HQ HA HB HL HD; (try simp only [hpn, hpm] at HS); (try clear F)
             (try simp only [hpn, hpm] at HS)
             have F := HS.boxes; simp only [bxn] at F
             refine hK.out _ _ ⟨[], HS.arr [some 0, none] (by decide)⟩ (fun HH => ?_)
             clear hK K
             refine norm_ (a' := ?_) ?_ ?_
             rotate_left
             · show Act.put _ (some 60) _ = _; simp only [Act.put, ptn, c12]; rfl
             refine dr_one 29 HT rfl (by kernel_rfl) (by decide) (fun K hK => ?_)
             refine HS.lend [1] (by decide) [.box g22 [.bool t124001.2.f0] 86] rfl (fun A' HL HD HA HB => ?_); refine goes_ Tryd.func54 (by kernel_rfl) rfl #[.pointer (some ⟨g22, 0, none⟩), .agg #[.int .i64 ((rd_T65 y26 4).f0), .string ((rd_T65 y26 4).f1), .slice B127999_2 (rd_T65 y26 4).f2.length d127999_2], .int .i64 4] (by rfl) rfl rfl (by simp only [mpn]; rfl) ?_; refine (impl_opener_text_0.calls ht129001.out y127999_2 m127999_2 (hV.lend HS HL) HA).mono ?_; rintro _ wt129001 ⟨rfl, HQ⟩; refine ⟨_, rfl, ?_⟩; replace HS := HB _ _ HQ (Nat.le_of_ble_eq_true rfl); clear HQ HA HB HL HD; (try simp only [hpn, hpm] at HS); (try clear F)
             (try simp only [hpn, hpm] at HS)
             have F := HS.boxes; simp only [bxn] at F
             refine hK.out _ _ ⟨[], HS.arr [some 0, none] (by decide)⟩ (fun HH => ?_)
             clear hK K
             refine norm_ (a' := ?_) ?_ ?_
             rotate_left
             · show Act.put _ (some 65) _ = _; simp only [Act.put, ptn, c12]; rfl
             refine dr_one 34 HT rfl (by kernel_rfl) (by decide) (fun K hK => ?_)
             refine HS.lend [1] (by decide) [.box g22 [.bool t129001.2.f0] 86] rfl (fun A' HL HD HA HB => ?_); refine goes_ Tryd.func61 (by kernel_rfl) rfl #[.pointer (some ⟨g22, 0, none⟩), .agg #[.int .i64 ((rd_T65 y26 5).f0), .string ((rd_T65 y26 5).f1), .slice B132999_2 (rd_T65 y26 5).f2.length d132999_2]] (by rfl) rfl rfl (by simp only [mpn]; rfl) ?_; refine (impl_opener_flag_0.calls ht134001.out y132999_2 m132999_2 (hV.lend HS HL) HA).mono ?_; rintro _ wt134001 ⟨rfl, HQ⟩; refine ⟨_, rfl, ?_⟩; replace HS := HB _ _ HQ (Nat.le_of_ble_eq_true rfl); clear HQ HA HB HL HD; (try simp only [hpn, hpm] at HS); (try clear F)
             (try simp only [hpn, hpm] at HS)
             have F := HS.boxes; simp only [bxn] at F
             refine hK.out _ _ ⟨[], HS.arr [some 0, none] (by decide)⟩ (fun HH => ?_)
             clear hK K
             refine norm_ (a' := ?_) ?_ ?_
             rotate_left
             · show Act.put _ (some 70) _ = _; simp only [Act.put, ptn, c12]; rfl
             refine dr_one 39 HT rfl (by kernel_rfl) (by decide) (fun K hK => ?_)
             refine HS.lend [1] (by decide) [.box g22 [.bool t134001.2.f0] 86] rfl (fun A' HL HD HA HB => ?_); refine goes_ Tryd.func55 (by kernel_rfl) rfl #[.pointer (some ⟨g22, 0, none⟩), .agg #[.int .i64 ((rd_T65 y26 6).f0), .string ((rd_T65 y26 6).f1), .slice B137999_2 (rd_T65 y26 6).f2.length d137999_2]] (by rfl) rfl rfl (by simp only [mpn]; rfl) ?_; refine (impl_opener_num_0.calls ht139001.out y137999_2 m137999_2 (hV.lend HS HL) HA).mono ?_; rintro _ wt139001 ⟨rfl, HQ⟩; refine ⟨_, rfl, ?_⟩; replace HS := HB _ _ HQ (Nat.le_of_ble_eq_true rfl); clear HQ HA HB HL HD; (try simp only [hpn, hpm] at HS); (try clear F)
             (try simp only [hpn, hpm] at HS)
             have F := HS.boxes; simp only [bxn] at F
             refine hK.out _ _ ⟨[], HS.arr [some 0, none] (by decide)⟩ (fun HH => ?_)
             clear hK K
             refine norm_ (a' := ?_) ?_ ?_
             rotate_left
             · show Act.put _ (some 75) _ = _; simp only [Act.put, ptn, c12]; rfl
             refine dr_one 44 HT rfl (by kernel_rfl) (by decide) (fun K hK => ?_)
             refine HS.lend [1] (by decide) [.box g22 [.bool t139001.2.f0] 86] rfl (fun A' HL HD HA HB => ?_); refine goes_ Tryd.func55 (by kernel_rfl) rfl #[.pointer (some ⟨g22, 0, none⟩), .agg #[.int .i64 ((rd_T65 y26 7).f0), .string ((rd_T65 y26 7).f1), .slice B142999_2 (rd_T65 y26 7).f2.length d142999_2]] (by rfl) rfl rfl (by simp only [mpn]; rfl) ?_; refine (impl_opener_num_0.calls ht144001.out y142999_2 m142999_2 (hV.lend HS HL) HA).mono ?_; rintro _ wt144001 ⟨rfl, HQ⟩; refine ⟨_, rfl, ?_⟩; replace HS := HB _ _ HQ (Nat.le_of_ble_eq_true rfl); clear HQ HA HB HL HD; (try simp only [hpn, hpm] at HS); (try clear F)
             (try simp only [hpn, hpm] at HS)
             have F := HS.boxes; simp only [bxn] at F
             refine hK.out _ _ ⟨[], HS.arr [some 0, none] (by decide)⟩ (fun HH => ?_)
             clear hK K
             refine norm_ (a' := ?_) ?_ ?_
             rotate_left
             · show Act.put _ (some 80) _ = _; simp only [Act.put, ptn, c12]; rfl
             refine drq_of [(45, some 81)] ?_
             repeat (first | (refine drq_pure HT (v := ?_) (a' := ?_) rfl rfl (by kernel_rfl) (fun _ _ _ h => h) (.inl ⟨by rfl, ?_⟩) ?_ ?_; rotate_left; (intro w'; go_simp; with_reducible rfl); rotate_left; (simp only [Act.put, ptn]; rfl)))
             refine drq_end ?_
             refine dr_last 47 HT rfl (by kernel_rfl) (by decide) (fun K hK => ?_)
             refine if_wp (by rfl) ?_; refine wp_store 2 0 HS (seg := [.int .i64 t104001.1, .string t109001.1, .string t124001.1, .int .i64 t114001.1, .int .i64 t119001.1, .string t129001.1, .bool t134001.1, .int .i64 t139001.1, .int .i64 t144001.1, .slice none 0 0, .slice none 0 0, .slice none 0 0, .string (⟨#[]⟩ : ByteArray)]) rfl rfl rfl rfl rfl rfl (by kernel_rfl) (by simp [wrt]) (by simp [Value.oneCell']) ?_; clear HS; (try clear F); intro w147001 HS
             (try simp only [hpn, hpm] at HS)
             have F := HS.boxes; simp only [bxn] at F
             refine hK.out _ _ ?_
             clear hK K
             refine norm_ ?_ (hJ (g10, .pointer (some ad30), .agg #[.int .i64 ((rd_T65 y26 0).f0), .string ((rd_T65 y26 0).f1), .slice B102999_2 (rd_T65 y26 0).f2.length d102999_2], .pointer (some (ad30.add 3)), .agg #[.int .i64 ((rd_T65 y26 1).f0), .string ((rd_T65 y26 1).f1), .slice B107999_2 (rd_T65 y26 1).f2.length d107999_2], .pointer (some ad112999), .agg #[.int .i64 ((rd_T65 y34 0).f0), .string ((rd_T65 y34 0).f1), .slice B112999_2 (rd_T65 y34 0).f2.length d112999_2], .pointer (some (ad112999.add 3)), .agg #[.int .i64 ((rd_T65 y34 1).f0), .string ((rd_T65 y34 1).f1), .slice B117999_2 (rd_T65 y34 1).f2.length d117999_2], .pointer (some (ad30.add 9)), .agg #[.int .i64 ((rd_T65 y26 3).f0), .string ((rd_T65 y26 3).f1), .slice B122999_2 (rd_T65 y26 3).f2.length d122999_2], .pointer (some (ad30.add 12)), .agg #[.int .i64 ((rd_T65 y26 4).f0), .string ((rd_T65 y26 4).f1), .slice B127999_2 (rd_T65 y26 4).f2.length d127999_2], .pointer (some (ad30.add 15)), .agg #[.int .i64 ((rd_T65 y26 5).f0), .string ((rd_T65 y26 5).f1), .slice B132999_2 (rd_T65 y26 5).f2.length d132999_2], .pointer (some (ad30.add 18)), .agg #[.int .i64 ((rd_T65 y26 6).f0), .string ((rd_T65 y26 6).f1), .slice B137999_2 (rd_T65 y26 6).f2.length d137999_2], .pointer (some (ad30.add 21)), .agg #[.int .i64 ((rd_T65 y26 7).f0), .string ((rd_T65 y26 7).f1), .slice B142999_2 (rd_T65 y26 7).f2.length d142999_2]) _ (HS.arr [some 0, some 1, some 2] (by decide)))
             simp only [putAll, Act.put, ptn, c12]
             (try rfl)
         · refine if_wp (by rfl) ?_; refine wp_box HS (by first | (go_simp; done) | (go_simp; rfl)) rfl ?_; clear HS; (try clear F); intro g10 w10 HS
           (try simp only [hpn, hpm] at HS)
           have F := HS.boxes; simp only [bxn] at F
           refine hK.out _ _ ⟨[], HS.arr [some 0, none] (by decide)⟩ (fun HH => ?_)
           clear hK K
           refine norm_ (a' := ?_) ?_ ?_
           rotate_left
           · show Act.put _ (some 10) _ = _; simp only [Act.put, ptn, c12]; rfl
           refine dr_one 19 HT rfl (by kernel_rfl) (by decide) (fun K hK => ?_)
           refine HS.lend [1] (by decide) [.box g22 [.bool t114001.2.f0] 86] rfl (fun A' HL HD HA HB => ?_); refine goes_ Tryd.func55 (by kernel_rfl) rfl #[.pointer (some ⟨g22, 0, none⟩), .agg #[.int .i64 ((rd_T65 y34 1).f0), .string ((rd_T65 y34 1).f1), .slice B117999_2 (rd_T65 y34 1).f2.length d117999_2]] (by rfl) rfl rfl (by simp only [mpn]; rfl) ?_; refine (impl_opener_num_0.calls ht119001.out y117999_2 m117999_2 (hV.lend HS HL) HA).mono ?_; rintro _ wt119001 ⟨rfl, HQ⟩; refine ⟨_, rfl, ?_⟩; replace HS := HB _ _ HQ (Nat.le_of_ble_eq_true rfl); clear HQ HA HB HL HD; (try simp only [hpn, hpm] at HS); (try clear F)
           (try simp only [hpn, hpm] at HS)
           have F := HS.boxes; simp only [bxn] at F
           refine hK.out _ _ ⟨[], HS.arr [some 0, none] (by decide)⟩ (fun HH => ?_)
           clear hK K
           refine norm_ (a' := ?_) ?_ ?_
           rotate_left
           · show Act.put _ (some 55) _ = _; simp only [Act.put, ptn, c12]; rfl
           refine dr_one 24 HT rfl (by kernel_rfl) (by decide) (fun K hK => ?_)
           refine HS.lend [1] (by decide) [.box g22 [.bool t119001.2.f0] 86] rfl (fun A' HL HD HA HB => ?_); refine goes_ Tryd.func54 (by kernel_rfl) rfl #[.pointer (some ⟨g22, 0, none⟩), .agg #[.int .i64 ((rd_T65 y26 3).f0), .string ((rd_T65 y26 3).f1), .slice B122999_2 (rd_T65 y26 3).f2.length d122999_2], .int .i64 12] (by rfl) rfl rfl (by simp only [mpn]; rfl) ?_; refine (impl_opener_text_0.calls ht124001.out y122999_2 m122999_2 (hV.lend HS HL) HA).mono ?_; rintro _ wt124001 ⟨rfl, HQ⟩; refine ⟨_, rfl, ?_⟩; replace HS := HB _ _ HQ (Nat.le_of_ble_eq_true rfl); clear HQ HA HB HL HD; (try simp only [hpn, hpm] at HS); (try clear F)
           (try simp only [hpn, hpm] at HS)
           have F := HS.boxes; simp only [bxn] at F
           refine hK.out _ _ ⟨[], HS.arr [some 0, none] (by decide)⟩ (fun HH => ?_)
           clear hK K
           refine norm_ (a' := ?_) ?_ ?_
           rotate_left
           · show Act.put _ (some 60) _ = _; simp only [Act.put, ptn, c12]; rfl
           refine dr_one 29 HT rfl (by kernel_rfl) (by decide) (fun K hK => ?_)
           refine HS.lend [1] (by decide) [.box g22 [.bool t124001.2.f0] 86] rfl (fun A' HL HD HA HB => ?_); refine goes_ Tryd.func54 (by kernel_rfl) rfl #[.pointer (some ⟨g22, 0, none⟩), .agg #[.int .i64 ((rd_T65 y26 4).f0), .string ((rd_T65 y26 4).f1), .slice B127999_2 (rd_T65 y26 4).f2.length d127999_2], .int .i64 4] (by rfl) rfl rfl (by simp only [mpn]; rfl) ?_; refine (impl_opener_text_0.calls ht129001.out y127999_2 m127999_2 (hV.lend HS HL) HA).mono ?_; rintro _ wt129001 ⟨rfl, HQ⟩; refine ⟨_, rfl, ?_⟩; replace HS := HB _ _ HQ (Nat.le_of_ble_eq_true rfl); clear HQ HA HB HL HD; (try simp only [hpn, hpm] at HS); (try clear F)
           (try simp only [hpn, hpm] at HS)
           have F := HS.boxes; simp only [bxn] at F
           refine hK.out _ _ ⟨[], HS.arr [some 0, none] (by decide)⟩ (fun HH => ?_)
           clear hK K
           refine norm_ (a' := ?_) ?_ ?_
           rotate_left
           · show Act.put _ (some 65) _ = _; simp only [Act.put, ptn, c12]; rfl
           refine dr_one 34 HT rfl (by kernel_rfl) (by decide) (fun K hK => ?_)
           refine HS.lend [1] (by decide) [.box g22 [.bool t129001.2.f0] 86] rfl (fun A' HL HD HA HB => ?_); refine goes_ Tryd.func61 (by kernel_rfl) rfl #[.pointer (some ⟨g22, 0, none⟩), .agg #[.int .i64 ((rd_T65 y26 5).f0), .string ((rd_T65 y26 5).f1), .slice B132999_2 (rd_T65 y26 5).f2.length d132999_2]] (by rfl) rfl rfl (by simp only [mpn]; rfl) ?_; refine (impl_opener_flag_0.calls ht134001.out y132999_2 m132999_2 (hV.lend HS HL) HA).mono ?_; rintro _ wt134001 ⟨rfl, HQ⟩; refine ⟨_, rfl, ?_⟩; replace HS := HB _ _ HQ (Nat.le_of_ble_eq_true rfl); clear HQ HA HB HL HD; (try simp only [hpn, hpm] at HS); (try clear F)
           (try simp only [hpn, hpm] at HS)
           have F := HS.boxes; simp only [bxn] at F
           refine hK.out _ _ ⟨[], HS.arr [some 0, none] (by decide)⟩ (fun HH => ?_)
           clear hK K
           refine norm_ (a' := ?_) ?_ ?_
           rotate_left
           · show Act.put _ (some 70) _ = _; simp only [Act.put, ptn, c12]; rfl
           refine dr_one 39 HT rfl (by kernel_rfl) (by decide) (fun K hK => ?_)
           refine HS.lend [1] (by decide) [.box g22 [.bool t134001.2.f0] 86] rfl (fun A' HL HD HA HB => ?_); refine goes_ Tryd.func55 (by kernel_rfl) rfl #[.pointer (some ⟨g22, 0, none⟩), .agg #[.int .i64 ((rd_T65 y26 6).f0), .string ((rd_T65 y26 6).f1), .slice B137999_2 (rd_T65 y26 6).f2.length d137999_2]] (by rfl) rfl rfl (by simp only [mpn]; rfl) ?_; refine (impl_opener_num_0.calls ht139001.out y137999_2 m137999_2 (hV.lend HS HL) HA).mono ?_; rintro _ wt139001 ⟨rfl, HQ⟩; refine ⟨_, rfl, ?_⟩; replace HS := HB _ _ HQ (Nat.le_of_ble_eq_true rfl); clear HQ HA HB HL HD; (try simp only [hpn, hpm] at HS); (try clear F)
           (try simp only [hpn, hpm] at HS)
           have F := HS.boxes; simp only [bxn] at F
           refine hK.out _ _ ⟨[], HS.arr [some 0, none] (by decide)⟩ (fun HH => ?_)
           clear hK K
           refine norm_ (a' := ?_) ?_ ?_
           rotate_left
           · show Act.put _ (some 75) _ = _; simp only [Act.put, ptn, c12]; rfl
           refine dr_one 44 HT rfl (by kernel_rfl) (by decide) (fun K hK => ?_)
           refine HS.lend [1] (by decide) [.box g22 [.bool t139001.2.f0] 86] rfl (fun A' HL HD HA HB => ?_); refine goes_ Tryd.func55 (by kernel_rfl) rfl #[.pointer (some ⟨g22, 0, none⟩), .agg #[.int .i64 ((rd_T65 y26 7).f0), .string ((rd_T65 y26 7).f1), .slice B142999_2 (rd_T65 y26 7).f2.length d142999_2]] (by rfl) rfl rfl (by simp only [mpn]; rfl) ?_; refine (impl_opener_num_0.calls ht144001.out y142999_2 m142999_2 (hV.lend HS HL) HA).mono ?_; rintro _ wt144001 ⟨rfl, HQ⟩; refine ⟨_, rfl, ?_⟩; replace HS := HB _ _ HQ (Nat.le_of_ble_eq_true rfl); clear HQ HA HB HL HD; (try simp only [hpn, hpm] at HS); (try clear F)
           (try simp only [hpn, hpm] at HS)
           have F := HS.boxes; simp only [bxn] at F
           refine hK.out _ _ ⟨[], HS.arr [some 0, none] (by decide)⟩ (fun HH => ?_)
           clear hK K
           refine norm_ (a' := ?_) ?_ ?_
           rotate_left
           · show Act.put _ (some 80) _ = _; simp only [Act.put, ptn, c12]; rfl
           refine drq_of [(45, some 81)] ?_
           repeat (first | (refine drq_pure HT (v := ?_) (a' := ?_) rfl rfl (by kernel_rfl) (fun _ _ _ h => h) (.inl ⟨by rfl, ?_⟩) ?_ ?_; rotate_left; (intro w'; go_simp; with_reducible rfl); rotate_left; (simp only [Act.put, ptn]; rfl)))
           refine drq_end ?_
           refine dr_last 47 HT rfl (by kernel_rfl) (by decide) (fun K hK => ?_)
           refine if_wp (by rfl) ?_; refine wp_store 2 0 HS (seg := [.int .i64 t104001.1, .string t109001.1, .string t124001.1, .int .i64 t114001.1, .int .i64 t119001.1, .string t129001.1, .bool t134001.1, .int .i64 t139001.1, .int .i64 t144001.1, .slice none 0 0, .slice none 0 0, .slice none 0 0, .string (⟨#[]⟩ : ByteArray)]) rfl rfl rfl rfl rfl rfl (by kernel_rfl) (by simp [wrt]) (by simp [Value.oneCell']) ?_; clear HS; (try clear F); intro w147001 HS
           (try simp only [hpn, hpm] at HS)
           have F := HS.boxes; simp only [bxn] at F
           refine hK.out _ _ ?_
           clear hK K
           refine norm_ ?_ (hJ (g10, .pointer (some ad30), .agg #[.int .i64 ((rd_T65 y26 0).f0), .string ((rd_T65 y26 0).f1), .slice B102999_2 (rd_T65 y26 0).f2.length d102999_2], .pointer (some (ad30.add 3)), .agg #[.int .i64 ((rd_T65 y26 1).f0), .string ((rd_T65 y26 1).f1), .slice B107999_2 (rd_T65 y26 1).f2.length d107999_2], .pointer (some ad112999), .agg #[.int .i64 ((rd_T65 y34 0).f0), .string ((rd_T65 y34 0).f1), .slice B112999_2 (rd_T65 y34 0).f2.length d112999_2], .pointer (some (ad112999.add 3)), .agg #[.int .i64 ((rd_T65 y34 1).f0), .string ((rd_T65 y34 1).f1), .slice B117999_2 (rd_T65 y34 1).f2.length d117999_2], .pointer (some (ad30.add 9)), .agg #[.int .i64 ((rd_T65 y26 3).f0), .string ((rd_T65 y26 3).f1), .slice B122999_2 (rd_T65 y26 3).f2.length d122999_2], .pointer (some (ad30.add 12)), .agg #[.int .i64 ((rd_T65 y26 4).f0), .string ((rd_T65 y26 4).f1), .slice B127999_2 (rd_T65 y26 4).f2.length d127999_2], .pointer (some (ad30.add 15)), .agg #[.int .i64 ((rd_T65 y26 5).f0), .string ((rd_T65 y26 5).f1), .slice B132999_2 (rd_T65 y26 5).f2.length d132999_2], .pointer (some (ad30.add 18)), .agg #[.int .i64 ((rd_T65 y26 6).f0), .string ((rd_T65 y26 6).f1), .slice B137999_2 (rd_T65 y26 6).f2.length d137999_2], .pointer (some (ad30.add 21)), .agg #[.int .i64 ((rd_T65 y26 7).f0), .string ((rd_T65 y26 7).f1), .slice B142999_2 (rd_T65 y26 7).f2.length d142999_2]) _ (HS.arr [some 0, some 1, some 2] (by decide)))
           simp only [putAll, Act.put, ptn, c12]
           (try rfl)
       · refine if_wp (by rfl) ?_; refine wp_box HS (by first | (go_simp; done) | (go_simp; rfl)) rfl ?_; clear HS; (try clear F); intro g10 w10 HS
         (try simp only [hpn, hpm] at HS)
         have F := HS.boxes; simp only [bxn] at F
         refine hK.out _ _ ⟨[], HS.arr [some 0, none] (by decide)⟩ (fun HH => ?_)
         clear hK K
         refine norm_ (a' := ?_) ?_ ?_
         rotate_left
         · show Act.put _ (some 10) _ = _; simp only [Act.put, ptn, c12]; rfl
         refine dr_one 14 HT rfl (by kernel_rfl) (by decide) (fun K hK => ?_)
         refine HS.lend [1] (by decide) [.box g22 [.bool t109001.2.f0] 86] rfl (fun A' HL HD HA HB => ?_); refine goes_ Tryd.func55 (by kernel_rfl) rfl #[.pointer (some ⟨g22, 0, none⟩), .agg #[.int .i64 ((rd_T65 y34 0).f0), .string ((rd_T65 y34 0).f1), .slice B112999_2 (rd_T65 y34 0).f2.length d112999_2]] (by rfl) rfl rfl (by simp only [mpn]; rfl) ?_; refine (impl_opener_num_0.calls ht114001.out y112999_2 m112999_2 (hV.lend HS HL) HA).mono ?_; rintro _ wt114001 ⟨rfl, HQ⟩; refine ⟨_, rfl, ?_⟩; replace HS := HB _ _ HQ (Nat.le_of_ble_eq_true rfl); clear HQ HA HB HL HD; (try simp only [hpn, hpm] at HS); (try clear F)
         (try simp only [hpn, hpm] at HS)
         have F := HS.boxes; simp only [bxn] at F
         refine hK.out _ _ ⟨[], HS.arr [some 0, none] (by decide)⟩ (fun HH => ?_)
         clear hK K
         refine norm_ (a' := ?_) ?_ ?_
         rotate_left
         · show Act.put _ (some 50) _ = _; simp only [Act.put, ptn, c12]; rfl
         refine dr_one 19 HT rfl (by kernel_rfl) (by decide) (fun K hK => ?_)
         refine HS.lend [1] (by decide) [.box g22 [.bool t114001.2.f0] 86] rfl (fun A' HL HD HA HB => ?_); refine goes_ Tryd.func55 (by kernel_rfl) rfl #[.pointer (some ⟨g22, 0, none⟩), .agg #[.int .i64 ((rd_T65 y34 1).f0), .string ((rd_T65 y34 1).f1), .slice B117999_2 (rd_T65 y34 1).f2.length d117999_2]] (by rfl) rfl rfl (by simp only [mpn]; rfl) ?_; refine (impl_opener_num_0.calls ht119001.out y117999_2 m117999_2 (hV.lend HS HL) HA).mono ?_; rintro _ wt119001 ⟨rfl, HQ⟩; refine ⟨_, rfl, ?_⟩; replace HS := HB _ _ HQ (Nat.le_of_ble_eq_true rfl); clear HQ HA HB HL HD; (try simp only [hpn, hpm] at HS); (try clear F)
         (try simp only [hpn, hpm] at HS)
         have F := HS.boxes; simp only [bxn] at F
         refine hK.out _ _ ⟨[], HS.arr [some 0, none] (by decide)⟩ (fun HH => ?_)
         clear hK K
         refine norm_ (a' := ?_) ?_ ?_
         rotate_left
         · show Act.put _ (some 55) _ = _; simp only [Act.put, ptn, c12]; rfl
         refine dr_one 24 HT rfl (by kernel_rfl) (by decide) (fun K hK => ?_)
         refine HS.lend [1] (by decide) [.box g22 [.bool t119001.2.f0] 86] rfl (fun A' HL HD HA HB => ?_); refine goes_ Tryd.func54 (by kernel_rfl) rfl #[.pointer (some ⟨g22, 0, none⟩), .agg #[.int .i64 ((rd_T65 y26 3).f0), .string ((rd_T65 y26 3).f1), .slice B122999_2 (rd_T65 y26 3).f2.length d122999_2], .int .i64 12] (by rfl) rfl rfl (by simp only [mpn]; rfl) ?_; refine (impl_opener_text_0.calls ht124001.out y122999_2 m122999_2 (hV.lend HS HL) HA).mono ?_; rintro _ wt124001 ⟨rfl, HQ⟩; refine ⟨_, rfl, ?_⟩; replace HS := HB _ _ HQ (Nat.le_of_ble_eq_true rfl); clear HQ HA HB HL HD; (try simp only [hpn, hpm] at HS); (try clear F)
         (try simp only [hpn, hpm] at HS)
         have F := HS.boxes; simp only [bxn] at F
         refine hK.out _ _ ⟨[], HS.arr [some 0, none] (by decide)⟩ (fun HH => ?_)
         clear hK K
         refine norm_ (a' := ?_) ?_ ?_
         rotate_left
         · show Act.put _ (some 60) _ = _; simp only [Act.put, ptn, c12]; rfl
         refine dr_one 29 HT rfl (by kernel_rfl) (by decide) (fun K hK => ?_)
         refine HS.lend [1] (by decide) [.box g22 [.bool t124001.2.f0] 86] rfl (fun A' HL HD HA HB => ?_); refine goes_ Tryd.func54 (by kernel_rfl) rfl #[.pointer (some ⟨g22, 0, none⟩), .agg #[.int .i64 ((rd_T65 y26 4).f0), .string ((rd_T65 y26 4).f1), .slice B127999_2 (rd_T65 y26 4).f2.length d127999_2], .int .i64 4] (by rfl) rfl rfl (by simp only [mpn]; rfl) ?_; refine (impl_opener_text_0.calls ht129001.out y127999_2 m127999_2 (hV.lend HS HL) HA).mono ?_; rintro _ wt129001 ⟨rfl, HQ⟩; refine ⟨_, rfl, ?_⟩; replace HS := HB _ _ HQ (Nat.le_of_ble_eq_true rfl); clear HQ HA HB HL HD; (try simp only [hpn, hpm] at HS); (try clear F)
         (try simp only [hpn, hpm] at HS)
         have F := HS.boxes; simp only [bxn] at F
         refine hK.out _ _ ⟨[], HS.arr [some 0, none] (by decide)⟩ (fun HH => ?_)
         clear hK K
         refine norm_ (a' := ?_) ?_ ?_
         rotate_left
         · show Act.put _ (some 65) _ = _; simp only [Act.put, ptn, c12]; rfl
         refine dr_one 34 HT rfl (by kernel_rfl) (by decide) (fun K hK => ?_)
         refine HS.lend [1] (by decide) [.box g22 [.bool t129001.2.f0] 86] rfl (fun A' HL HD HA HB => ?_); refine goes_ Tryd.func61 (by kernel_rfl) rfl #[.pointer (some ⟨g22, 0, none⟩), .agg #[.int .i64 ((rd_T65 y26 5).f0), .string ((rd_T65 y26 5).f1), .slice B132999_2 (rd_T65 y26 5).f2.length d132999_2]] (by rfl) rfl rfl (by simp only [mpn]; rfl) ?_; refine (impl_opener_flag_0.calls ht134001.out y132999_2 m132999_2 (hV.lend HS HL) HA).mono ?_; rintro _ wt134001 ⟨rfl, HQ⟩; refine ⟨_, rfl, ?_⟩; replace HS := HB _ _ HQ (Nat.le_of_ble_eq_true rfl); clear HQ HA HB HL HD; (try simp only [hpn, hpm] at HS); (try clear F)
         (try simp only [hpn, hpm] at HS)
         have F := HS.boxes; simp only [bxn] at F
         refine hK.out _ _ ⟨[], HS.arr [some 0, none] (by decide)⟩ (fun HH => ?_)
         clear hK K
         refine norm_ (a' := ?_) ?_ ?_
         rotate_left
         · show Act.put _ (some 70) _ = _; simp only [Act.put, ptn, c12]; rfl
         refine dr_one 39 HT rfl (by kernel_rfl) (by decide) (fun K hK => ?_)
         refine HS.lend [1] (by decide) [.box g22 [.bool t134001.2.f0] 86] rfl (fun A' HL HD HA HB => ?_); refine goes_ Tryd.func55 (by kernel_rfl) rfl #[.pointer (some ⟨g22, 0, none⟩), .agg #[.int .i64 ((rd_T65 y26 6).f0), .string ((rd_T65 y26 6).f1), .slice B137999_2 (rd_T65 y26 6).f2.length d137999_2]] (by rfl) rfl rfl (by simp only [mpn]; rfl) ?_; refine (impl_opener_num_0.calls ht139001.out y137999_2 m137999_2 (hV.lend HS HL) HA).mono ?_; rintro _ wt139001 ⟨rfl, HQ⟩; refine ⟨_, rfl, ?_⟩; replace HS := HB _ _ HQ (Nat.le_of_ble_eq_true rfl); clear HQ HA HB HL HD; (try simp only [hpn, hpm] at HS); (try clear F)
         (try simp only [hpn, hpm] at HS)
         have F := HS.boxes; simp only [bxn] at F
         refine hK.out _ _ ⟨[], HS.arr [some 0, none] (by decide)⟩ (fun HH => ?_)
         clear hK K
         refine norm_ (a' := ?_) ?_ ?_
         rotate_left
         · show Act.put _ (some 75) _ = _; simp only [Act.put, ptn, c12]; rfl
         refine dr_one 44 HT rfl (by kernel_rfl) (by decide) (fun K hK => ?_)
         refine HS.lend [1] (by decide) [.box g22 [.bool t139001.2.f0] 86] rfl (fun A' HL HD HA HB => ?_); refine goes_ Tryd.func55 (by kernel_rfl) rfl #[.pointer (some ⟨g22, 0, none⟩), .agg #[.int .i64 ((rd_T65 y26 7).f0), .string ((rd_T65 y26 7).f1), .slice B142999_2 (rd_T65 y26 7).f2.length d142999_2]] (by rfl) rfl rfl (by simp only [mpn]; rfl) ?_; refine (impl_opener_num_0.calls ht144001.out y142999_2 m142999_2 (hV.lend HS HL) HA).mono ?_; rintro _ wt144001 ⟨rfl, HQ⟩; refine ⟨_, rfl, ?_⟩; replace HS := HB _ _ HQ (Nat.le_of_ble_eq_true rfl); clear HQ HA HB HL HD; (try simp only [hpn, hpm] at HS); (try clear F)
         (try simp only [hpn, hpm] at HS)
         have F := HS.boxes; simp only [bxn] at F
         refine hK.out _ _ ⟨[], HS.arr [some 0, none] (by decide)⟩ (fun HH => ?_)
         clear hK K
         refine norm_ (a' := ?_) ?_ ?_
         rotate_left
         · show Act.put _ (some 80) _ = _; simp only [Act.put, ptn, c12]; rfl
         refine drq_of [(45, some 81)] ?_
         repeat (first | (refine drq_pure HT (v := ?_) (a' := ?_) rfl rfl (by kernel_rfl) (fun _ _ _ h => h) (.inl ⟨by rfl, ?_⟩) ?_ ?_; rotate_left; (intro w'; go_simp; with_reducible rfl); rotate_left; (simp only [Act.put, ptn]; rfl)))
         refine drq_end ?_
         refine dr_last 47 HT rfl (by kernel_rfl) (by decide) (fun K hK => ?_)
         refine if_wp (by rfl) ?_; refine wp_store 2 0 HS (seg := [.int .i64 t104001.1, .string t109001.1, .string t124001.1, .int .i64 t114001.1, .int .i64 t119001.1, .string t129001.1, .bool t134001.1, .int .i64 t139001.1, .int .i64 t144001.1, .slice none 0 0, .slice none 0 0, .slice none 0 0, .string (⟨#[]⟩ : ByteArray)]) rfl rfl rfl rfl rfl rfl (by kernel_rfl) (by simp [wrt]) (by simp [Value.oneCell']) ?_; clear HS; (try clear F); intro w147001 HS
         (try simp only [hpn, hpm] at HS)
         have F := HS.boxes; simp only [bxn] at F
         refine hK.out _ _ ?_
         clear hK K
         refine norm_ ?_ (hJ (g10, .pointer (some ad30), .agg #[.int .i64 ((rd_T65 y26 0).f0), .string ((rd_T65 y26 0).f1), .slice B102999_2 (rd_T65 y26 0).f2.length d102999_2], .pointer (some (ad30.add 3)), .agg #[.int .i64 ((rd_T65 y26 1).f0), .string ((rd_T65 y26 1).f1), .slice B107999_2 (rd_T65 y26 1).f2.length d107999_2], .pointer (some ad112999), .agg #[.int .i64 ((rd_T65 y34 0).f0), .string ((rd_T65 y34 0).f1), .slice B112999_2 (rd_T65 y34 0).f2.length d112999_2], .pointer (some (ad112999.add 3)), .agg #[.int .i64 ((rd_T65 y34 1).f0), .string ((rd_T65 y34 1).f1), .slice B117999_2 (rd_T65 y34 1).f2.length d117999_2], .pointer (some (ad30.add 9)), .agg #[.int .i64 ((rd_T65 y26 3).f0), .string ((rd_T65 y26 3).f1), .slice B122999_2 (rd_T65 y26 3).f2.length d122999_2], .pointer (some (ad30.add 12)), .agg #[.int .i64 ((rd_T65 y26 4).f0), .string ((rd_T65 y26 4).f1), .slice B127999_2 (rd_T65 y26 4).f2.length d127999_2], .pointer (some (ad30.add 15)), .agg #[.int .i64 ((rd_T65 y26 5).f0), .string ((rd_T65 y26 5).f1), .slice B132999_2 (rd_T65 y26 5).f2.length d132999_2], .pointer (some (ad30.add 18)), .agg #[.int .i64 ((rd_T65 y26 6).f0), .string ((rd_T65 y26 6).f1), .slice B137999_2 (rd_T65 y26 6).f2.length d137999_2], .pointer (some (ad30.add 21)), .agg #[.int .i64 ((rd_T65 y26 7).f0), .string ((rd_T65 y26 7).f1), .slice B142999_2 (rd_T65 y26 7).f2.length d142999_2]) _ (HS.arr [some 0, some 1, some 2] (by decide)))
         simp only [putAll, Act.put, ptn, c12]
         (try rfl)
     · refine if_wp (by rfl) ?_; refine wp_box HS (by first | (go_simp; done) | (go_simp; rfl)) rfl ?_; clear HS; (try clear F); intro g10 w10 HS
       (try simp only [hpn, hpm] at HS)
       have F := HS.boxes; simp only [bxn] at F
       refine hK.out _ _ ⟨[], HS.arr [some 0, none] (by decide)⟩ (fun HH => ?_)
       clear hK K
       refine norm_ (a' := ?_) ?_ ?_
       rotate_left
       · show Act.put _ (some 10) _ = _; simp only [Act.put, ptn, c12]; rfl
       refine dr_one 9 HT rfl (by kernel_rfl) (by decide) (fun K hK => ?_)
       refine HS.lend [1] (by decide) [.box g22 [.bool t104001.2.f0] 86] rfl (fun A' HL HD HA HB => ?_); refine goes_ Tryd.func54 (by kernel_rfl) rfl #[.pointer (some ⟨g22, 0, none⟩), .agg #[.int .i64 ((rd_T65 y26 1).f0), .string ((rd_T65 y26 1).f1), .slice B107999_2 (rd_T65 y26 1).f2.length d107999_2], .int .i64 12] (by rfl) rfl rfl (by simp only [mpn]; rfl) ?_; refine (impl_opener_text_0.calls ht109001.out y107999_2 m107999_2 (hV.lend HS HL) HA).mono ?_; rintro _ wt109001 ⟨rfl, HQ⟩; refine ⟨_, rfl, ?_⟩; replace HS := HB _ _ HQ (Nat.le_of_ble_eq_true rfl); clear HQ HA HB HL HD; (try simp only [hpn, hpm] at HS); (try clear F)
       (try simp only [hpn, hpm] at HS)
       have F := HS.boxes; simp only [bxn] at F
       refine hK.out _ _ ⟨[], HS.arr [some 0, none] (by decide)⟩ (fun HH => ?_)
       clear hK K
       refine norm_ (a' := ?_) ?_ ?_
       rotate_left
       · show Act.put _ (some 45) _ = _; simp only [Act.put, ptn, c12]; rfl
       refine dr_one 14 HT rfl (by kernel_rfl) (by decide) (fun K hK => ?_)
       refine HS.lend [1] (by decide) [.box g22 [.bool t109001.2.f0] 86] rfl (fun A' HL HD HA HB => ?_); refine goes_ Tryd.func55 (by kernel_rfl) rfl #[.pointer (some ⟨g22, 0, none⟩), .agg #[.int .i64 ((rd_T65 y34 0).f0), .string ((rd_T65 y34 0).f1), .slice B112999_2 (rd_T65 y34 0).f2.length d112999_2]] (by rfl) rfl rfl (by simp only [mpn]; rfl) ?_; refine (impl_opener_num_0.calls ht114001.out y112999_2 m112999_2 (hV.lend HS HL) HA).mono ?_; rintro _ wt114001 ⟨rfl, HQ⟩; refine ⟨_, rfl, ?_⟩; replace HS := HB _ _ HQ (Nat.le_of_ble_eq_true rfl); clear HQ HA HB HL HD; (try simp only [hpn, hpm] at HS); (try clear F)
       (try simp only [hpn, hpm] at HS)
       have F := HS.boxes; simp only [bxn] at F
       refine hK.out _ _ ⟨[], HS.arr [some 0, none] (by decide)⟩ (fun HH => ?_)
       clear hK K
       refine norm_ (a' := ?_) ?_ ?_
       rotate_left
       · show Act.put _ (some 50) _ = _; simp only [Act.put, ptn, c12]; rfl
       refine dr_one 19 HT rfl (by kernel_rfl) (by decide) (fun K hK => ?_)
       refine HS.lend [1] (by decide) [.box g22 [.bool t114001.2.f0] 86] rfl (fun A' HL HD HA HB => ?_); refine goes_ Tryd.func55 (by kernel_rfl) rfl #[.pointer (some ⟨g22, 0, none⟩), .agg #[.int .i64 ((rd_T65 y34 1).f0), .string ((rd_T65 y34 1).f1), .slice B117999_2 (rd_T65 y34 1).f2.length d117999_2]] (by rfl) rfl rfl (by simp only [mpn]; rfl) ?_; refine (impl_opener_num_0.calls ht119001.out y117999_2 m117999_2 (hV.lend HS HL) HA).mono ?_; rintro _ wt119001 ⟨rfl, HQ⟩; refine ⟨_, rfl, ?_⟩; replace HS := HB _ _ HQ (Nat.le_of_ble_eq_true rfl); clear HQ HA HB HL HD; (try simp only [hpn, hpm] at HS); (try clear F)
       (try simp only [hpn, hpm] at HS)
       have F := HS.boxes; simp only [bxn] at F
       refine hK.out _ _ ⟨[], HS.arr [some 0, none] (by decide)⟩ (fun HH => ?_)
       clear hK K
       refine norm_ (a' := ?_) ?_ ?_
       rotate_left
       · show Act.put _ (some 55) _ = _; simp only [Act.put, ptn, c12]; rfl
       refine dr_one 24 HT rfl (by kernel_rfl) (by decide) (fun K hK => ?_)
       refine HS.lend [1] (by decide) [.box g22 [.bool t119001.2.f0] 86] rfl (fun A' HL HD HA HB => ?_); refine goes_ Tryd.func54 (by kernel_rfl) rfl #[.pointer (some ⟨g22, 0, none⟩), .agg #[.int .i64 ((rd_T65 y26 3).f0), .string ((rd_T65 y26 3).f1), .slice B122999_2 (rd_T65 y26 3).f2.length d122999_2], .int .i64 12] (by rfl) rfl rfl (by simp only [mpn]; rfl) ?_; refine (impl_opener_text_0.calls ht124001.out y122999_2 m122999_2 (hV.lend HS HL) HA).mono ?_; rintro _ wt124001 ⟨rfl, HQ⟩; refine ⟨_, rfl, ?_⟩; replace HS := HB _ _ HQ (Nat.le_of_ble_eq_true rfl); clear HQ HA HB HL HD; (try simp only [hpn, hpm] at HS); (try clear F)
       (try simp only [hpn, hpm] at HS)
       have F := HS.boxes; simp only [bxn] at F
       refine hK.out _ _ ⟨[], HS.arr [some 0, none] (by decide)⟩ (fun HH => ?_)
       clear hK K
       refine norm_ (a' := ?_) ?_ ?_
       rotate_left
       · show Act.put _ (some 60) _ = _; simp only [Act.put, ptn, c12]; rfl
       refine dr_one 29 HT rfl (by kernel_rfl) (by decide) (fun K hK => ?_)
       refine HS.lend [1] (by decide) [.box g22 [.bool t124001.2.f0] 86] rfl (fun A' HL HD HA HB => ?_); refine goes_ Tryd.func54 (by kernel_rfl) rfl #[.pointer (some ⟨g22, 0, none⟩), .agg #[.int .i64 ((rd_T65 y26 4).f0), .string ((rd_T65 y26 4).f1), .slice B127999_2 (rd_T65 y26 4).f2.length d127999_2], .int .i64 4] (by rfl) rfl rfl (by simp only [mpn]; rfl) ?_; refine (impl_opener_text_0.calls ht129001.out y127999_2 m127999_2 (hV.lend HS HL) HA).mono ?_; rintro _ wt129001 ⟨rfl, HQ⟩; refine ⟨_, rfl, ?_⟩; replace HS := HB _ _ HQ (Nat.le_of_ble_eq_true rfl); clear HQ HA HB HL HD; (try simp only [hpn, hpm] at HS); (try clear F)
       (try simp only [hpn, hpm] at HS)
       have F := HS.boxes; simp only [bxn] at F
       refine hK.out _ _ ⟨[], HS.arr [some 0, none] (by decide)⟩ (fun HH => ?_)
       clear hK K
       refine norm_ (a' := ?_) ?_ ?_
       rotate_left
       · show Act.put _ (some 65) _ = _; simp only [Act.put, ptn, c12]; rfl
       refine dr_one 34 HT rfl (by kernel_rfl) (by decide) (fun K hK => ?_)
       refine HS.lend [1] (by decide) [.box g22 [.bool t129001.2.f0] 86] rfl (fun A' HL HD HA HB => ?_); refine goes_ Tryd.func61 (by kernel_rfl) rfl #[.pointer (some ⟨g22, 0, none⟩), .agg #[.int .i64 ((rd_T65 y26 5).f0), .string ((rd_T65 y26 5).f1), .slice B132999_2 (rd_T65 y26 5).f2.length d132999_2]] (by rfl) rfl rfl (by simp only [mpn]; rfl) ?_; refine (impl_opener_flag_0.calls ht134001.out y132999_2 m132999_2 (hV.lend HS HL) HA).mono ?_; rintro _ wt134001 ⟨rfl, HQ⟩; refine ⟨_, rfl, ?_⟩; replace HS := HB _ _ HQ (Nat.le_of_ble_eq_true rfl); clear HQ HA HB HL HD; (try simp only [hpn, hpm] at HS); (try clear F)
       (try simp only [hpn, hpm] at HS)
       have F := HS.boxes; simp only [bxn] at F
       refine hK.out _ _ ⟨[], HS.arr [some 0, none] (by decide)⟩ (fun HH => ?_)
       clear hK K
       refine norm_ (a' := ?_) ?_ ?_
       rotate_left
       · show Act.put _ (some 70) _ = _; simp only [Act.put, ptn, c12]; rfl
       refine dr_one 39 HT rfl (by kernel_rfl) (by decide) (fun K hK => ?_)
       refine HS.lend [1] (by decide) [.box g22 [.bool t134001.2.f0] 86] rfl (fun A' HL HD HA HB => ?_); refine goes_ Tryd.func55 (by kernel_rfl) rfl #[.pointer (some ⟨g22, 0, none⟩), .agg #[.int .i64 ((rd_T65 y26 6).f0), .string ((rd_T65 y26 6).f1), .slice B137999_2 (rd_T65 y26 6).f2.length d137999_2]] (by rfl) rfl rfl (by simp only [mpn]; rfl) ?_; refine (impl_opener_num_0.calls ht139001.out y137999_2 m137999_2 (hV.lend HS HL) HA).mono ?_; rintro _ wt139001 ⟨rfl, HQ⟩; refine ⟨_, rfl, ?_⟩; replace HS := HB _ _ HQ (Nat.le_of_ble_eq_true rfl); clear HQ HA HB HL HD; (try simp only [hpn, hpm] at HS); (try clear F)
       (try simp only [hpn, hpm] at HS)
       have F := HS.boxes; simp only [bxn] at F
       refine hK.out _ _ ⟨[], HS.arr [some 0, none] (by decide)⟩ (fun HH => ?_)
       clear hK K
       refine norm_ (a' := ?_) ?_ ?_
       rotate_left
       · show Act.put _ (some 75) _ = _; simp only [Act.put, ptn, c12]; rfl
       refine dr_one 44 HT rfl (by kernel_rfl) (by decide) (fun K hK => ?_)
       refine HS.lend [1] (by decide) [.box g22 [.bool t139001.2.f0] 86] rfl (fun A' HL HD HA HB => ?_); refine goes_ Tryd.func55 (by kernel_rfl) rfl #[.pointer (some ⟨g22, 0, none⟩), .agg #[.int .i64 ((rd_T65 y26 7).f0), .string ((rd_T65 y26 7).f1), .slice B142999_2 (rd_T65 y26 7).f2.length d142999_2]] (by rfl) rfl rfl (by simp only [mpn]; rfl) ?_; refine (impl_opener_num_0.calls ht144001.out y142999_2 m142999_2 (hV.lend HS HL) HA).mono ?_; rintro _ wt144001 ⟨rfl, HQ⟩; refine ⟨_, rfl, ?_⟩; replace HS := HB _ _ HQ (Nat.le_of_ble_eq_true rfl); clear HQ HA HB HL HD; (try simp only [hpn, hpm] at HS); (try clear F)
       (try simp only [hpn, hpm] at HS)
       have F := HS.boxes; simp only [bxn] at F
       refine hK.out _ _ ⟨[], HS.arr [some 0, none] (by decide)⟩ (fun HH => ?_)
       clear hK K
       refine norm_ (a' := ?_) ?_ ?_
       rotate_left
       · show Act.put _ (some 80) _ = _; simp only [Act.put, ptn, c12]; rfl
       refine drq_of [(45, some 81)] ?_
       repeat (first | (refine drq_pure HT (v := ?_) (a' := ?_) rfl rfl (by kernel_rfl) (fun _ _ _ h => h) (.inl ⟨by rfl, ?_⟩) ?_ ?_; rotate_left; (intro w'; go_simp; with_reducible rfl); rotate_left; (simp only [Act.put, ptn]; rfl)))
       refine drq_end ?_
       refine dr_last 47 HT rfl (by kernel_rfl) (by decide) (fun K hK => ?_)
       refine if_wp (by rfl) ?_; refine wp_store 2 0 HS (seg := [.int .i64 t104001.1, .string t109001.1, .string t124001.1, .int .i64 t114001.1, .int .i64 t119001.1, .string t129001.1, .bool t134001.1, .int .i64 t139001.1, .int .i64 t144001.1, .slice none 0 0, .slice none 0 0, .slice none 0 0, .string (⟨#[]⟩ : ByteArray)]) rfl rfl rfl rfl rfl rfl (by kernel_rfl) (by simp [wrt]) (by simp [Value.oneCell']) ?_; clear HS; (try clear F); intro w147001 HS
       (try simp only [hpn, hpm] at HS)
       have F := HS.boxes; simp only [bxn] at F
       refine hK.out _ _ ?_
       clear hK K
       refine norm_ ?_ (hJ (g10, .pointer (some ad30), .agg #[.int .i64 ((rd_T65 y26 0).f0), .string ((rd_T65 y26 0).f1), .slice B102999_2 (rd_T65 y26 0).f2.length d102999_2], .pointer (some (ad30.add 3)), .agg #[.int .i64 ((rd_T65 y26 1).f0), .string ((rd_T65 y26 1).f1), .slice B107999_2 (rd_T65 y26 1).f2.length d107999_2], .pointer (some ad112999), .agg #[.int .i64 ((rd_T65 y34 0).f0), .string ((rd_T65 y34 0).f1), .slice B112999_2 (rd_T65 y34 0).f2.length d112999_2], .pointer (some (ad112999.add 3)), .agg #[.int .i64 ((rd_T65 y34 1).f0), .string ((rd_T65 y34 1).f1), .slice B117999_2 (rd_T65 y34 1).f2.length d117999_2], .pointer (some (ad30.add 9)), .agg #[.int .i64 ((rd_T65 y26 3).f0), .string ((rd_T65 y26 3).f1), .slice B122999_2 (rd_T65 y26 3).f2.length d122999_2], .pointer (some (ad30.add 12)), .agg #[.int .i64 ((rd_T65 y26 4).f0), .string ((rd_T65 y26 4).f1), .slice B127999_2 (rd_T65 y26 4).f2.length d127999_2], .pointer (some (ad30.add 15)), .agg #[.int .i64 ((rd_T65 y26 5).f0), .string ((rd_T65 y26 5).f1), .slice B132999_2 (rd_T65 y26 5).f2.length d132999_2], .pointer (some (ad30.add 18)), .agg #[.int .i64 ((rd_T65 y26 6).f0), .string ((rd_T65 y26 6).f1), .slice B137999_2 (rd_T65 y26 6).f2.length d137999_2], .pointer (some (ad30.add 21)), .agg #[.int .i64 ((rd_T65 y26 7).f0), .string ((rd_T65 y26 7).f1), .slice B142999_2 (rd_T65 y26 7).f2.length d142999_2]) _ (HS.arr [some 0, some 1, some 2] (by decide)))
       simp only [putAll, Act.put, ptn, c12]
       (try rfl)
   · refine if_wp (by rfl) ?_; refine wp_box HS (by first | (go_simp; done) | (go_simp; rfl)) rfl ?_; clear HS; (try clear F); intro g10 w10 HS
     (try simp only [hpn, hpm] at HS)
     have F := HS.boxes; simp only [bxn] at F
     refine hK.out _ _ ⟨[], HS.arr [some 0, none] (by decide)⟩ (fun HH => ?_)
     clear hK K
     refine norm_ (a' := ?_) ?_ ?_
     rotate_left
     · show Act.put _ (some 10) _ = _; simp only [Act.put, ptn, c12]; rfl
     refine dr_one 4 HT rfl (by kernel_rfl) (by decide) (fun K hK => ?_)
     refine HS.lend [1] (by decide) [.box g22 [.bool t31.2.f0] 86] rfl (fun A' HL HD HA HB => ?_); refine goes_ Tryd.func55 (by kernel_rfl) rfl #[.pointer (some ⟨g22, 0, none⟩), .agg #[.int .i64 ((rd_T65 y26 0).f0), .string ((rd_T65 y26 0).f1), .slice B102999_2 (rd_T65 y26 0).f2.length d102999_2]] (by rfl) rfl rfl (by simp only [mpn]; rfl) ?_; refine (impl_opener_num_0.calls ht104001.out y102999_2 m102999_2 (hV.lend HS HL) HA).mono ?_; rintro _ wt104001 ⟨rfl, HQ⟩; refine ⟨_, rfl, ?_⟩; replace HS := HB _ _ HQ (Nat.le_of_ble_eq_true rfl); clear HQ HA HB HL HD; (try simp only [hpn, hpm] at HS); (try clear F)
     (try simp only [hpn, hpm] at HS)
     have F := HS.boxes; simp only [bxn] at F
     refine hK.out _ _ ⟨[], HS.arr [some 0, none] (by decide)⟩ (fun HH => ?_)
     clear hK K
     refine norm_ (a' := ?_) ?_ ?_
     rotate_left
     · show Act.put _ (some 40) _ = _; simp only [Act.put, ptn, c12]; rfl
     refine dr_one 9 HT rfl (by kernel_rfl) (by decide) (fun K hK => ?_)
     refine HS.lend [1] (by decide) [.box g22 [.bool t104001.2.f0] 86] rfl (fun A' HL HD HA HB => ?_); refine goes_ Tryd.func54 (by kernel_rfl) rfl #[.pointer (some ⟨g22, 0, none⟩), .agg #[.int .i64 ((rd_T65 y26 1).f0), .string ((rd_T65 y26 1).f1), .slice B107999_2 (rd_T65 y26 1).f2.length d107999_2], .int .i64 12] (by rfl) rfl rfl (by simp only [mpn]; rfl) ?_; refine (impl_opener_text_0.calls ht109001.out y107999_2 m107999_2 (hV.lend HS HL) HA).mono ?_; rintro _ wt109001 ⟨rfl, HQ⟩; refine ⟨_, rfl, ?_⟩; replace HS := HB _ _ HQ (Nat.le_of_ble_eq_true rfl); clear HQ HA HB HL HD; (try simp only [hpn, hpm] at HS); (try clear F)
     (try simp only [hpn, hpm] at HS)
     have F := HS.boxes; simp only [bxn] at F
     refine hK.out _ _ ⟨[], HS.arr [some 0, none] (by decide)⟩ (fun HH => ?_)
     clear hK K
     refine norm_ (a' := ?_) ?_ ?_
     rotate_left
     · show Act.put _ (some 45) _ = _; simp only [Act.put, ptn, c12]; rfl
     refine dr_one 14 HT rfl (by kernel_rfl) (by decide) (fun K hK => ?_)
     refine HS.lend [1] (by decide) [.box g22 [.bool t109001.2.f0] 86] rfl (fun A' HL HD HA HB => ?_); refine goes_ Tryd.func55 (by kernel_rfl) rfl #[.pointer (some ⟨g22, 0, none⟩), .agg #[.int .i64 ((rd_T65 y34 0).f0), .string ((rd_T65 y34 0).f1), .slice B112999_2 (rd_T65 y34 0).f2.length d112999_2]] (by rfl) rfl rfl (by simp only [mpn]; rfl) ?_; refine (impl_opener_num_0.calls ht114001.out y112999_2 m112999_2 (hV.lend HS HL) HA).mono ?_; rintro _ wt114001 ⟨rfl, HQ⟩; refine ⟨_, rfl, ?_⟩; replace HS := HB _ _ HQ (Nat.le_of_ble_eq_true rfl); clear HQ HA HB HL HD; (try simp only [hpn, hpm] at HS); (try clear F)
     (try simp only [hpn, hpm] at HS)
     have F := HS.boxes; simp only [bxn] at F
     refine hK.out _ _ ⟨[], HS.arr [some 0, none] (by decide)⟩ (fun HH => ?_)
     clear hK K
     refine norm_ (a' := ?_) ?_ ?_
     rotate_left
     · show Act.put _ (some 50) _ = _; simp only [Act.put, ptn, c12]; rfl
     refine dr_one 19 HT rfl (by kernel_rfl) (by decide) (fun K hK => ?_)
     refine HS.lend [1] (by decide) [.box g22 [.bool t114001.2.f0] 86] rfl (fun A' HL HD HA HB => ?_); refine goes_ Tryd.func55 (by kernel_rfl) rfl #[.pointer (some ⟨g22, 0, none⟩), .agg #[.int .i64 ((rd_T65 y34 1).f0), .string ((rd_T65 y34 1).f1), .slice B117999_2 (rd_T65 y34 1).f2.length d117999_2]] (by rfl) rfl rfl (by simp only [mpn]; rfl) ?_; refine (impl_opener_num_0.calls ht119001.out y117999_2 m117999_2 (hV.lend HS HL) HA).mono ?_; rintro _ wt119001 ⟨rfl, HQ⟩; refine ⟨_, rfl, ?_⟩; replace HS := HB _ _ HQ (Nat.le_of_ble_eq_true rfl); clear HQ HA HB HL HD; (try simp only [hpn, hpm] at HS); (try clear F)
     (try simp only [hpn, hpm] at HS)
     have F := HS.boxes; simp only [bxn] at F
     refine hK.out _ _ ⟨[], HS.arr [some 0, none] (by decide)⟩ (fun HH => ?_)
     clear hK K
     refine norm_ (a' := ?_) ?_ ?_
     rotate_left
     · show Act.put _ (some 55) _ = _; simp only [Act.put, ptn, c12]; rfl
     refine dr_one 24 HT rfl (by kernel_rfl) (by decide) (fun K hK => ?_)
     refine HS.lend [1] (by decide) [.box g22 [.bool t119001.2.f0] 86] rfl (fun A' HL HD HA HB => ?_); refine goes_ Tryd.func54 (by kernel_rfl) rfl #[.pointer (some ⟨g22, 0, none⟩), .agg #[.int .i64 ((rd_T65 y26 3).f0), .string ((rd_T65 y26 3).f1), .slice B122999_2 (rd_T65 y26 3).f2.length d122999_2], .int .i64 12] (by rfl) rfl rfl (by simp only [mpn]; rfl) ?_; refine (impl_opener_text_0.calls ht124001.out y122999_2 m122999_2 (hV.lend HS HL) HA).mono ?_; rintro _ wt124001 ⟨rfl, HQ⟩; refine ⟨_, rfl, ?_⟩; replace HS := HB _ _ HQ (Nat.le_of_ble_eq_true rfl); clear HQ HA HB HL HD; (try simp only [hpn, hpm] at HS); (try clear F)
     (try simp only [hpn, hpm] at HS)
     have F := HS.boxes; simp only [bxn] at F
     refine hK.out _ _ ⟨[], HS.arr [some 0, none] (by decide)⟩ (fun HH => ?_)
     clear hK K
     refine norm_ (a' := ?_) ?_ ?_
     rotate_left
     · show Act.put _ (some 60) _ = _; simp only [Act.put, ptn, c12]; rfl
     refine dr_one 29 HT rfl (by kernel_rfl) (by decide) (fun K hK => ?_)
     refine HS.lend [1] (by decide) [.box g22 [.bool t124001.2.f0] 86] rfl (fun A' HL HD HA HB => ?_); refine goes_ Tryd.func54 (by kernel_rfl) rfl #[.pointer (some ⟨g22, 0, none⟩), .agg #[.int .i64 ((rd_T65 y26 4).f0), .string ((rd_T65 y26 4).f1), .slice B127999_2 (rd_T65 y26 4).f2.length d127999_2], .int .i64 4] (by rfl) rfl rfl (by simp only [mpn]; rfl) ?_; refine (impl_opener_text_0.calls ht129001.out y127999_2 m127999_2 (hV.lend HS HL) HA).mono ?_; rintro _ wt129001 ⟨rfl, HQ⟩; refine ⟨_, rfl, ?_⟩; replace HS := HB _ _ HQ (Nat.le_of_ble_eq_true rfl); clear HQ HA HB HL HD; (try simp only [hpn, hpm] at HS); (try clear F)
     (try simp only [hpn, hpm] at HS)
     have F := HS.boxes; simp only [bxn] at F
     refine hK.out _ _ ⟨[], HS.arr [some 0, none] (by decide)⟩ (fun HH => ?_)
     clear hK K
     refine norm_ (a' := ?_) ?_ ?_
     rotate_left
     · show Act.put _ (some 65) _ = _; simp only [Act.put, ptn, c12]; rfl
     refine dr_one 34 HT rfl (by kernel_rfl) (by decide) (fun K hK => ?_)
     refine HS.lend [1] (by decide) [.box g22 [.bool t129001.2.f0] 86] rfl (fun A' HL HD HA HB => ?_); refine goes_ Tryd.func61 (by kernel_rfl) rfl #[.pointer (some ⟨g22, 0, none⟩), .agg #[.int .i64 ((rd_T65 y26 5).f0), .string ((rd_T65 y26 5).f1), .slice B132999_2 (rd_T65 y26 5).f2.length d132999_2]] (by rfl) rfl rfl (by simp only [mpn]; rfl) ?_; refine (impl_opener_flag_0.calls ht134001.out y132999_2 m132999_2 (hV.lend HS HL) HA).mono ?_; rintro _ wt134001 ⟨rfl, HQ⟩; refine ⟨_, rfl, ?_⟩; replace HS := HB _ _ HQ (Nat.le_of_ble_eq_true rfl); clear HQ HA HB HL HD; (try simp only [hpn, hpm] at HS); (try clear F)
     (try simp only [hpn, hpm] at HS)
     have F := HS.boxes; simp only [bxn] at F
     refine hK.out _ _ ⟨[], HS.arr [some 0, none] (by decide)⟩ (fun HH => ?_)
     clear hK K
     refine norm_ (a' := ?_) ?_ ?_
     rotate_left
     · show Act.put _ (some 70) _ = _; simp only [Act.put, ptn, c12]; rfl
     refine dr_one 39 HT rfl (by kernel_rfl) (by decide) (fun K hK => ?_)
     refine HS.lend [1] (by decide) [.box g22 [.bool t134001.2.f0] 86] rfl (fun A' HL HD HA HB => ?_); refine goes_ Tryd.func55 (by kernel_rfl) rfl #[.pointer (some ⟨g22, 0, none⟩), .agg #[.int .i64 ((rd_T65 y26 6).f0), .string ((rd_T65 y26 6).f1), .slice B137999_2 (rd_T65 y26 6).f2.length d137999_2]] (by rfl) rfl rfl (by simp only [mpn]; rfl) ?_; refine (impl_opener_num_0.calls ht139001.out y137999_2 m137999_2 (hV.lend HS HL) HA).mono ?_; rintro _ wt139001 ⟨rfl, HQ⟩; refine ⟨_, rfl, ?_⟩; replace HS := HB _ _ HQ (Nat.le_of_ble_eq_true rfl); clear HQ HA HB HL HD; (try simp only [hpn, hpm] at HS); (try clear F)
     (try simp only [hpn, hpm] at HS)
     have F := HS.boxes; simp only [bxn] at F
     refine hK.out _ _ ⟨[], HS.arr [some 0, none] (by decide)⟩ (fun HH => ?_)
     clear hK K
     refine norm_ (a' := ?_) ?_ ?_
     rotate_left
     · show Act.put _ (some 75) _ = _; simp only [Act.put, ptn, c12]; rfl
     refine dr_one 44 HT rfl (by kernel_rfl) (by decide) (fun K hK => ?_)
     refine HS.lend [1] (by decide) [.box g22 [.bool t139001.2.f0] 86] rfl (fun A' HL HD HA HB => ?_); refine goes_ Tryd.func55 (by kernel_rfl) rfl #[.pointer (some ⟨g22, 0, none⟩), .agg #[.int .i64 ((rd_T65 y26 7).f0), .string ((rd_T65 y26 7).f1), .slice B142999_2 (rd_T65 y26 7).f2.length d142999_2]] (by rfl) rfl rfl (by simp only [mpn]; rfl) ?_; refine (impl_opener_num_0.calls ht144001.out y142999_2 m142999_2 (hV.lend HS HL) HA).mono ?_; rintro _ wt144001 ⟨rfl, HQ⟩; refine ⟨_, rfl, ?_⟩; replace HS := HB _ _ HQ (Nat.le_of_ble_eq_true rfl); clear HQ HA HB HL HD; (try simp only [hpn, hpm] at HS); (try clear F)
     (try simp only [hpn, hpm] at HS)
     have F := HS.boxes; simp only [bxn] at F
     refine hK.out _ _ ⟨[], HS.arr [some 0, none] (by decide)⟩ (fun HH => ?_)
     clear hK K
     refine norm_ (a' := ?_) ?_ ?_
     rotate_left
     · show Act.put _ (some 80) _ = _; simp only [Act.put, ptn, c12]; rfl
     refine drq_of [(45, some 81)] ?_
     repeat (first | (refine drq_pure HT (v := ?_) (a' := ?_) rfl rfl (by kernel_rfl) (fun _ _ _ h => h) (.inl ⟨by rfl, ?_⟩) ?_ ?_; rotate_left; (intro w'; go_simp; with_reducible rfl); rotate_left; (simp only [Act.put, ptn]; rfl)))
     refine drq_end ?_
     refine dr_last 47 HT rfl (by kernel_rfl) (by decide) (fun K hK => ?_)
     refine if_wp (by rfl) ?_; refine wp_store 2 0 HS (seg := [.int .i64 t104001.1, .string t109001.1, .string t124001.1, .int .i64 t114001.1, .int .i64 t119001.1, .string t129001.1, .bool t134001.1, .int .i64 t139001.1, .int .i64 t144001.1, .slice none 0 0, .slice none 0 0, .slice none 0 0, .string (⟨#[]⟩ : ByteArray)]) rfl rfl rfl rfl rfl rfl (by kernel_rfl) (by simp [wrt]) (by simp [Value.oneCell']) ?_; clear HS; (try clear F); intro w147001 HS
     (try simp only [hpn, hpm] at HS)
     have F := HS.boxes; simp only [bxn] at F
     refine hK.out _ _ ?_
     clear hK K
     refine norm_ ?_ (hJ (g10, .pointer (some ad30), .agg #[.int .i64 ((rd_T65 y26 0).f0), .string ((rd_T65 y26 0).f1), .slice B102999_2 (rd_T65 y26 0).f2.length d102999_2], .pointer (some (ad30.add 3)), .agg #[.int .i64 ((rd_T65 y26 1).f0), .string ((rd_T65 y26 1).f1), .slice B107999_2 (rd_T65 y26 1).f2.length d107999_2], .pointer (some ad112999), .agg #[.int .i64 ((rd_T65 y34 0).f0), .string ((rd_T65 y34 0).f1), .slice B112999_2 (rd_T65 y34 0).f2.length d112999_2], .pointer (some (ad112999.add 3)), .agg #[.int .i64 ((rd_T65 y34 1).f0), .string ((rd_T65 y34 1).f1), .slice B117999_2 (rd_T65 y34 1).f2.length d117999_2], .pointer (some (ad30.add 9)), .agg #[.int .i64 ((rd_T65 y26 3).f0), .string ((rd_T65 y26 3).f1), .slice B122999_2 (rd_T65 y26 3).f2.length d122999_2], .pointer (some (ad30.add 12)), .agg #[.int .i64 ((rd_T65 y26 4).f0), .string ((rd_T65 y26 4).f1), .slice B127999_2 (rd_T65 y26 4).f2.length d127999_2], .pointer (some (ad30.add 15)), .agg #[.int .i64 ((rd_T65 y26 5).f0), .string ((rd_T65 y26 5).f1), .slice B132999_2 (rd_T65 y26 5).f2.length d132999_2], .pointer (some (ad30.add 18)), .agg #[.int .i64 ((rd_T65 y26 6).f0), .string ((rd_T65 y26 6).f1), .slice B137999_2 (rd_T65 y26 6).f2.length d137999_2], .pointer (some (ad30.add 21)), .agg #[.int .i64 ((rd_T65 y26 7).f0), .string ((rd_T65 y26 7).f1), .slice B142999_2 (rd_T65 y26 7).f2.length d142999_2]) _ (HS.arr [some 0, some 1, some 2] (by decide)))
     simp only [putAll, Act.put, ptn, c12]
     (try rfl)
 rintro ⟨g10, pe38, pe39, pe43, pe44, pe48, pe49, pe53, pe54, pe58, pe59, pe63, pe64, pe68, pe69, pe73, pe74, pe78, pe79⟩ w199999 HS
 have F := HS.boxes; simp only [bxn] at F
 refine norm_ (a' := ?_) ?_ ?_
 rotate_left
 · simp only [putAll, Act.put, ptn, c12]; rfl
 refine done_ (done_of HT.out (by kernel_rfl)) ?_
 by_cases c40 : 8 < (y26.length : Int)
 case neg => exact zno c40 H
 replace H := zpos c40 H
 replace c40 := eq_true c40
 have c40n : (8 < y26.length) = True := eq_true (by have := of_eq_true c40; omega)
 obtain ⟨ad41, B41_2, d41_2, hq41, e41_0, e41_1, e41_2, m41_2, y41_2⟩ := at_T65 gb35_6 8 (of_eq_true (eq_true (by decide))) (of_eq_true c40)
 obtain rfl := Option.some.inj hq41
 (try (have e41_0' := e41_0; simp only [Int.toNat_zero, Int.reduceToNat, Int.toNat_natCast, Nat.zero_mul, Nat.one_mul, Nat.zero_add, Nat.add_zero, Addr.add_zero', Addr.add_succ', Nat.reduceMul, Nat.reduceAdd] at e41_0'))
 (try (have e41_1' := e41_1; simp only [Int.toNat_zero, Int.reduceToNat, Int.toNat_natCast, Nat.zero_mul, Nat.one_mul, Nat.zero_add, Nat.add_zero, Addr.add_zero', Addr.add_succ', Nat.reduceMul, Nat.reduceAdd] at e41_1'))
 (try (have e41_2' := e41_2; simp only [Int.toNat_zero, Int.reduceToNat, Int.toNat_natCast, Nat.zero_mul, Nat.one_mul, Nat.zero_add, Nat.add_zero, Addr.add_zero', Addr.add_succ', Nat.reduceMul, Nat.reduceAdd] at e41_2'))
 have e41_0_41 := (hV.keepc HS e41_0)
 have e41_1_41 := (hV.keepc HS e41_1)
 have e41_2_41 := (hV.keepc HS e41_2)
 (try have e41_0'_41 := (hV.keepc HS e41_0'))
 (try have e41_1'_41 := (hV.keepc HS e41_1'))
 (try have e41_2'_41 := (hV.keepc HS e41_2'))
 replace H := zbind H; obtain ⟨t42, ht42, H⟩ := H
 go_wp2_with (first | ((with_reducible refine gate_dst (N := 86) rfl ?_); refine HS.lend [1] (by decide) [.box g22 [.bool t144001.2.f0] 86] rfl (fun A' HL HD HA HB => ?_); refine ev_call rfl Tryd.func62 (by kernel_rfl) rfl #[.pointer (some ⟨g22, 0, none⟩), .agg #[.int .i64 ((rd_T65 y26 8).f0), .string ((rd_T65 y26 8).f1), .slice B41_2 (rd_T65 y26 8).f2.length d41_2]] rfl (by simp only [mpn]; rfl) ?_; refine (impl_opener_nums_0.calls ht42.out y41_2 m41_2 (hV.lend HS HL) HA).mono ?_; rintro _ wt42 ⟨v43, rfl, HQ⟩; refine ⟨_, rfl, ?_⟩; replace HS := HB _ _ HQ (Nat.le_of_ble_eq_true rfl); clear HQ HA HB HL HD; (try simp only [hpn, hpm] at HS); (try clear F); obtain ⟨B43, d43, rfl, m43⟩ := HS.form 3 rfl; (try simp only [hpn, hpm] at HS); have F := HS.boxes; simp only [bxn] at F) | ((with_reducible refine gate_store (p := 87) rfl ?_); refine ev_store rfl 2 9 HS (seg := [.slice B43 t42.1.length d43]) rfl rfl rfl rfl rfl rfl (by kernel_rfl) (by simp [wrt]) (by simp [Value.oneCell']) ?_; clear HS; (try clear F); intro w45 HS; (try simp only [hpn, hpm] at HS); have F := HS.boxes; simp only [bxn] at F))
 by_cases c202001 : 9 < (y26.length : Int)
 case neg => exact zno c202001 H
 replace H := zpos c202001 H
 replace c202001 := eq_true c202001
 have c202001n : (9 < y26.length) = True := eq_true (by have := of_eq_true c202001; omega)
 obtain ⟨ad202999, B202999_2, d202999_2, hq202999, e202999_0, e202999_1, e202999_2, m202999_2, y202999_2⟩ := at_T65 gb35_6 9 (of_eq_true (eq_true (by decide))) (of_eq_true c202001); obtain rfl := Option.some.inj hq202999; (try (have e202999_0' := e202999_0; simp only [Int.toNat_zero, Int.reduceToNat, Int.toNat_natCast, Nat.zero_mul, Nat.one_mul, Nat.zero_add, Nat.add_zero, Addr.add_zero', Addr.add_succ', Nat.reduceMul, Nat.reduceAdd] at e202999_0')); (try (have e202999_1' := e202999_1; simp only [Int.toNat_zero, Int.reduceToNat, Int.toNat_natCast, Nat.zero_mul, Nat.one_mul, Nat.zero_add, Nat.add_zero, Addr.add_zero', Addr.add_succ', Nat.reduceMul, Nat.reduceAdd] at e202999_1')); (try (have e202999_2' := e202999_2; simp only [Int.toNat_zero, Int.reduceToNat, Int.toNat_natCast, Nat.zero_mul, Nat.one_mul, Nat.zero_add, Nat.add_zero, Addr.add_zero', Addr.add_succ', Nat.reduceMul, Nat.reduceAdd] at e202999_2'))
 replace H := zbind H; obtain ⟨t204001, ht204001, H⟩ := H
 by_cases c207001 : 10 < (y26.length : Int)
 case neg => exact zno c207001 H
 replace H := zpos c207001 H
 replace c207001 := eq_true c207001
 have c207001n : (10 < y26.length) = True := eq_true (by have := of_eq_true c207001; omega)
 obtain ⟨ad207999, B207999_2, d207999_2, hq207999, e207999_0, e207999_1, e207999_2, m207999_2, y207999_2⟩ := at_T65 gb35_6 10 (of_eq_true (eq_true (by decide))) (of_eq_true c207001); obtain rfl := Option.some.inj hq207999; (try (have e207999_0' := e207999_0; simp only [Int.toNat_zero, Int.reduceToNat, Int.toNat_natCast, Nat.zero_mul, Nat.one_mul, Nat.zero_add, Nat.add_zero, Addr.add_zero', Addr.add_succ', Nat.reduceMul, Nat.reduceAdd] at e207999_0')); (try (have e207999_1' := e207999_1; simp only [Int.toNat_zero, Int.reduceToNat, Int.toNat_natCast, Nat.zero_mul, Nat.one_mul, Nat.zero_add, Nat.add_zero, Addr.add_zero', Addr.add_succ', Nat.reduceMul, Nat.reduceAdd] at e207999_1')); (try (have e207999_2' := e207999_2; simp only [Int.toNat_zero, Int.reduceToNat, Int.toNat_natCast, Nat.zero_mul, Nat.one_mul, Nat.zero_add, Nat.add_zero, Addr.add_zero', Addr.add_succ', Nat.reduceMul, Nat.reduceAdd] at e207999_2'))
 replace H := zbind H; obtain ⟨t209001, ht209001, H⟩ := H
 refine dr_start2 [.box g2 [.int .i64 0, .string (⟨#[]⟩ : ByteArray), .string (⟨#[]⟩ : ByteArray), .int .i64 0, .int .i64 0, .string (⟨#[]⟩ : ByteArray), .bool false, .int .i64 0, .int .i64 0, .slice none 0 0, .slice none 0 0, .slice none 0 0, .string (⟨#[]⟩ : ByteArray)] 29, .emp, .box g10 [.int .i64 t104001.1, .string t109001.1, .string t124001.1, .int .i64 t114001.1, .int .i64 t119001.1, .string t129001.1, .bool t134001.1, .int .i64 t139001.1, .int .i64 t144001.1, .slice B43 t42.1.length d43, .slice none 0 0, .slice none 0 0, .string (⟨#[]⟩ : ByteArray)] 29, .own (Zd.slice 3 (Zd.int .i64)) t42.1 [.slice B43 t42.1.length d43]] [11, 13] HS (HS.arr [some 0, none, some 2, some 3] (by decide)) #[false, false, false, false, false, false, false, false, false, false, false, false, false, false] (by kernel_rfl) rfl rfl impl_ReadCert.tT10 (fun w48 HT HS HH => ?_)
 (try clear F)
 refine drq_of [(0, some 88), (1, some 89), (2, some 90)] ?_
 repeat (first | (refine drq_pure HT (v := ?_) (a' := ?_) rfl rfl (by kernel_rfl) (fun _ _ _ h => h) (.inl ⟨by rfl, ?_⟩) ?_ ?_; rotate_left; (intro w'; go_simp; with_reducible rfl); rotate_left; (simp only [Act.put, ptn]; rfl)))
 refine drq_end ?_
 refine dr_take 3 (some 91) HT HH (v := ?_) (a' := ?_) rfl rfl (by kernel_rfl) (fun _ _ _ h => h) (.inl ⟨by rfl, ?_⟩) ?_ ?_
 rotate_left
 · rintro w' ⟨rs', HS'⟩; have e202999_0 := (hV.keepc HS' e202999_0); have e202999_1 := (hV.keepc HS' e202999_1); have e202999_2 := (hV.keepc HS' e202999_2); (try simp only [Int.toNat_zero, Int.reduceToNat, Int.toNat_natCast, Nat.zero_mul, Nat.one_mul, Nat.zero_add, Nat.add_zero, Addr.add_zero', Addr.add_succ', Nat.reduceMul, Nat.reduceAdd] at e202999_0 e202999_1 e202999_2); go_simp; with_reducible rfl
 rotate_left
 · simp only [Act.put, ptn]; rfl
 refine drq_of [(5, some 93), (6, some 94), (7, some 95)] ?_
 repeat (first | (refine drq_pure HT (v := ?_) (a' := ?_) rfl rfl (by kernel_rfl) (fun _ _ _ h => h) (.inl ⟨by rfl, ?_⟩) ?_ ?_; rotate_left; (intro w'; go_simp; with_reducible rfl); rotate_left; (simp only [Act.put, ptn]; rfl)))
 refine drq_end ?_
 refine dr_take 8 (some 96) HT HH (v := ?_) (a' := ?_) rfl rfl (by kernel_rfl) (fun _ _ _ h => h) (.inl ⟨by rfl, ?_⟩) ?_ ?_
 rotate_left
 · rintro w' ⟨rs', HS'⟩; have e207999_0 := (hV.keepc HS' e207999_0); have e207999_1 := (hV.keepc HS' e207999_1); have e207999_2 := (hV.keepc HS' e207999_2); (try simp only [Int.toNat_zero, Int.reduceToNat, Int.toNat_natCast, Nat.zero_mul, Nat.one_mul, Nat.zero_add, Nat.add_zero, Addr.add_zero', Addr.add_succ', Nat.reduceMul, Nat.reduceAdd] at e207999_0 e207999_1 e207999_2); go_simp; with_reducible rfl
 rotate_left
 · simp only [Act.put, ptn]; rfl
 refine dr_one 4 HT rfl (by kernel_rfl) (by decide) (fun K hK => ?_)
 refine HS.lend [1] (by decide) [.box g22 [.bool t42.2.f0] 86] rfl (fun A' HL HD HA HB => ?_); refine goes_ Tryd.func63 (by kernel_rfl) rfl #[.pointer (some ⟨g22, 0, none⟩), .agg #[.int .i64 ((rd_T65 y26 9).f0), .string ((rd_T65 y26 9).f1), .slice B202999_2 (rd_T65 y26 9).f2.length d202999_2], .int .i64 12] (by rfl) rfl rfl (by simp only [mpn]; rfl) ?_; refine (impl_opener_texts_0.calls ht204001.out y202999_2 m202999_2 (hV.lend HS HL) HA).mono ?_; rintro _ wt204001 ⟨v204002, rfl, HQ⟩; refine ⟨_, rfl, ?_⟩; replace HS := HB _ _ HQ (Nat.le_of_ble_eq_true rfl); clear HQ HA HB HL HD; (try simp only [hpn, hpm] at HS); (try clear F); obtain ⟨B204002, d204002, rfl, m204002⟩ := HS.form 4 rfl
 (try simp only [hpn, hpm] at HS)
 have F := HS.boxes; simp only [bxn] at F
 refine hK.out _ _ ⟨[], HS.arr [some 0, none, some 2, some 3] (by decide)⟩ (fun HH => ?_)
 clear hK K
 refine norm_ (a' := ?_) ?_ ?_
 rotate_left
 · show Act.put _ (some 92) _ = _; simp only [Act.put, ptn, c12]; rfl
 refine drq_of [(10, some 98)] ?_
 repeat (first | (refine drq_pure HT (v := ?_) (a' := ?_) rfl rfl (by kernel_rfl) (fun _ _ _ h => h) (.inl ⟨by rfl, ?_⟩) ?_ ?_; rotate_left; (intro w'; go_simp; with_reducible rfl); rotate_left; (simp only [Act.put, ptn]; rfl)))
 refine drq_end ?_
 refine dr_one 9 HT rfl (by kernel_rfl) (by decide) (fun K hK => ?_)
 refine HS.lend [1] (by decide) [.box g22 [.bool t204001.2.f0] 86] rfl (fun A' HL HD HA HB => ?_); refine goes_ Tryd.func63 (by kernel_rfl) rfl #[.pointer (some ⟨g22, 0, none⟩), .agg #[.int .i64 ((rd_T65 y26 10).f0), .string ((rd_T65 y26 10).f1), .slice B207999_2 (rd_T65 y26 10).f2.length d207999_2], .int .i64 12] (by rfl) rfl rfl (by simp only [mpn]; rfl) ?_; refine (impl_opener_texts_0.calls ht209001.out y207999_2 m207999_2 (hV.lend HS HL) HA).mono ?_; rintro _ wt209001 ⟨v209002, rfl, HQ⟩; refine ⟨_, rfl, ?_⟩; replace HS := HB _ _ HQ (Nat.le_of_ble_eq_true rfl); clear HQ HA HB HL HD; (try simp only [hpn, hpm] at HS); (try clear F); obtain ⟨B209002, d209002, rfl, m209002⟩ := HS.form 5 rfl
 (try simp only [hpn, hpm] at HS)
 have F := HS.boxes; simp only [bxn] at F
 refine hK.out _ _ ⟨[], HS.arr [some 0, none, some 2, some 3] (by decide)⟩ (fun HH => ?_)
 clear hK K
 refine norm_ (a' := ?_) ?_ ?_
 rotate_left
 · show Act.put _ (some 97) _ = _; simp only [Act.put, ptn, c12]; rfl
 refine dr_last 11 HT rfl (by kernel_rfl) (by decide) (fun K hK => ?_)
 refine if_wp (by rfl) ?_; refine wp_store 2 10 HS (seg := [.slice B204002 t204001.1.length d204002]) rfl rfl rfl rfl rfl rfl (by kernel_rfl) (by simp [wrt]) (by simp [Value.oneCell']) ?_; clear HS; (try clear F); intro w211001 HS
 (try simp only [hpn, hpm] at HS)
 have F := HS.boxes; simp only [bxn] at F
 refine hK.out _ _ ?_
 clear hK K
 refine drq_of [(12, some 99)] ?_
 repeat (first | (refine drq_pure HT (v := ?_) (a' := ?_) rfl rfl (by kernel_rfl) (fun _ _ _ h => h) (.inl ⟨by rfl, ?_⟩) ?_ ?_; rotate_left; (intro w'; go_simp; with_reducible rfl); rotate_left; (simp only [Act.put, ptn]; rfl)))
 refine drq_end ?_
 refine dr_last 13 HT rfl (by kernel_rfl) (by decide) (fun K hK => ?_)
 refine if_wp (by rfl) ?_; refine wp_store 2 11 HS (seg := [.slice B209002 t209001.1.length d209002]) rfl rfl rfl rfl rfl rfl (by kernel_rfl) (by simp [wrt]) (by simp [Value.oneCell']) ?_; clear HS; (try clear F); intro w213001 HS
 (try simp only [hpn, hpm] at HS)
 have F := HS.boxes; simp only [bxn] at F
 refine hK.out _ _ ?_
 clear hK K
 refine done_ (done_of HT.out (by kernel_rfl)) ?_
 (try clear F)
 have F := HS.boxes; simp only [bxn] at F
 by_cases c50 : 1 < (y18.length : Int)
 case neg => exact zno c50 H
 replace H := zpos c50 H
 replace c50 := eq_true c50
 have c50n : (1 < y18.length) = True := eq_true (by have := of_eq_true c50; omega)
 obtain ⟨ad51, B51_2, d51_2, hq51, e51_0, e51_1, e51_2, m51_2, y51_2⟩ := at_T65 gb35_4 1 (of_eq_true (eq_true (by decide))) (of_eq_true c50)
 obtain rfl := Option.some.inj hq51
 (try (have e51_0' := e51_0; simp only [Int.toNat_zero, Int.reduceToNat, Int.toNat_natCast, Nat.zero_mul, Nat.one_mul, Nat.zero_add, Nat.add_zero, Addr.add_zero', Addr.add_succ', Nat.reduceMul, Nat.reduceAdd] at e51_0'))
 (try (have e51_1' := e51_1; simp only [Int.toNat_zero, Int.reduceToNat, Int.toNat_natCast, Nat.zero_mul, Nat.one_mul, Nat.zero_add, Nat.add_zero, Addr.add_zero', Addr.add_succ', Nat.reduceMul, Nat.reduceAdd] at e51_1'))
 (try (have e51_2' := e51_2; simp only [Int.toNat_zero, Int.reduceToNat, Int.toNat_natCast, Nat.zero_mul, Nat.one_mul, Nat.zero_add, Nat.add_zero, Addr.add_zero', Addr.add_succ', Nat.reduceMul, Nat.reduceAdd] at e51_2'))
 have e51_0_51 := (hV.keepc HS e51_0)
 have e51_1_51 := (hV.keepc HS e51_1)
 have e51_2_51 := (hV.keepc HS e51_2)
 (try have e51_0'_51 := (hV.keepc HS e51_0'))
 (try have e51_1'_51 := (hV.keepc HS e51_1'))
 (try have e51_2'_51 := (hV.keepc HS e51_2'))
 replace H := zbind H; obtain ⟨t52, ht52, H⟩ := H
 replace H := zbind H; obtain ⟨t56, ht56, H⟩ := H
 by_cases c58 : t52.2.f0 = true
 case pos =>
  replace H := zpos c58 H
  obtain ⟨rfl, rfl⟩ := zsome2 H
  go_wp2_with (first | ((with_reducible refine gate_dst (N := 104) rfl ?_); refine HS.lend [1] (by decide) [.box g22 [.bool t209001.2.f0] 86] rfl (fun A' HL HD HA HB => ?_); refine ev_call rfl Tryd.func54 (by kernel_rfl) rfl #[.pointer (some ⟨g22, 0, none⟩), .agg #[.int .i64 ((rd_T65 y18 1).f0), .string ((rd_T65 y18 1).f1), .slice B51_2 (rd_T65 y18 1).f2.length d51_2], .int .i64 4] rfl (by simp only [mpn]; rfl) ?_; refine (impl_opener_text_0.calls ht52.out y51_2 m51_2 (hV.lend HS HL) HA).mono ?_; rintro _ wt52 ⟨rfl, HQ⟩; refine ⟨_, rfl, ?_⟩; replace HS := HB _ _ HQ (Nat.le_of_ble_eq_true rfl); clear HQ HA HB HL HD; (try simp only [hpn, hpm] at HS); (try clear F); (try simp only [hpn, hpm] at HS); have F := HS.boxes; simp only [bxn] at F) | ((with_reducible refine gate_store (p := 105) rfl ?_); refine ev_store rfl 2 12 HS (seg := [.string t52.1]) rfl rfl rfl rfl rfl rfl (by kernel_rfl) (by simp [wrt]) (by simp [Value.oneCell']) ?_; clear HS; (try clear F); intro w54 HS; (try simp only [hpn, hpm] at HS); have F := HS.boxes; simp only [bxn] at F) | ((with_reducible refine gate_dst (N := 108) rfl ?_); refine ev_call rfl Tryd.func11 (by kernel_rfl) rfl #[.agg #[.int .i64 t104001.1, .string t109001.1, .string t124001.1, .int .i64 t114001.1, .int .i64 t119001.1, .string t129001.1, .bool t134001.1, .int .i64 t139001.1, .int .i64 t144001.1, .slice B43 t42.1.length d43, .slice B204002 t204001.1.length d204002, .slice B209002 t209001.1.length d209002, .string t52.1]] rfl (by simp only [mpn]; rfl) ?_; refine (impl_CertText.calls ht56.out (HS.rd 3 rfl) m43 (HS.rd 4 rfl) m204002 (HS.rd 5 rfl) m209002 (hV.keepc HS hgM)).mono ?_; rintro _ wt56 ⟨rfl, HQ⟩; refine ⟨_, rfl, ?_⟩; replace HS := HS.call HQ; clear HQ; (try clear F); (try simp only [hpn, hpm] at HS); have F := HS.boxes; simp only [bxn] at F; (try simp only [c58])) | ((with_reducible refine gate_store (p := 2) rfl ?_); refine ev_store rfl 0 0 HS (seg := [.int .i64 0, .string (⟨#[]⟩ : ByteArray), .string (⟨#[]⟩ : ByteArray), .int .i64 0, .int .i64 0, .string (⟨#[]⟩ : ByteArray), .bool false, .int .i64 0, .int .i64 0, .slice none 0 0, .slice none 0 0, .slice none 0 0, .string (⟨#[]⟩ : ByteArray)]) rfl rfl rfl rfl rfl rfl (by kernel_rfl) (by simp [wrt]) (by simp [Value.oneCell']) ?_; clear HS; (try clear F); intro w59 HS; (try simp only [hpn, hpm] at HS); have F := HS.boxes; simp only [bxn] at F))
  have HS := HB35 _ _ HS (Nat.le_of_ble_eq_true rfl)
  have HS := HB27 _ _ HS (Nat.le_of_ble_eq_true rfl)
  have HS := HB19 _ _ HS (Nat.le_of_ble_eq_true rfl)
  have HS := HB6 _ _ HS (Nat.le_of_ble_eq_true rfl)
  replace HS := HS.nil 3 (Zd.int .i64)
  replace HS := HS.nil 9 Zd.string
  replace HS := HS.nil 9 Zd.string
  exact bodyPost_ret (results_list (rs := [.cell 2 29, .tmp 3]) rfl (by simp) (.cell _ _ _ _ _ rfl (HS.boxAt (i := 0) rfl) Tryd.underlying29 rfl (by kernel_rfl) (.tmp .nil))) rfl ⟨_, _, _, rfl, HS.pick [11, 12, 13] (by decide) (by rfl)⟩
 replace H := zneg c58 H
 replace c58 := eq_false_of_ne_true c58
 by_cases c61 : t56.2 = true
 case neg =>
  replace H := zneg c61 H
  replace c61 := eq_false_of_ne_true c61
  obtain ⟨rfl, rfl⟩ := zsome2 H
  go_wp2_with (first | ((with_reducible refine gate_dst (N := 104) rfl ?_); refine HS.lend [1] (by decide) [.box g22 [.bool t209001.2.f0] 86] rfl (fun A' HL HD HA HB => ?_); refine ev_call rfl Tryd.func54 (by kernel_rfl) rfl #[.pointer (some ⟨g22, 0, none⟩), .agg #[.int .i64 ((rd_T65 y18 1).f0), .string ((rd_T65 y18 1).f1), .slice B51_2 (rd_T65 y18 1).f2.length d51_2], .int .i64 4] rfl (by simp only [mpn]; rfl) ?_; refine (impl_opener_text_0.calls ht52.out y51_2 m51_2 (hV.lend HS HL) HA).mono ?_; rintro _ wt52 ⟨rfl, HQ⟩; refine ⟨_, rfl, ?_⟩; replace HS := HB _ _ HQ (Nat.le_of_ble_eq_true rfl); clear HQ HA HB HL HD; (try simp only [hpn, hpm] at HS); (try clear F); (try simp only [hpn, hpm] at HS); have F := HS.boxes; simp only [bxn] at F) | ((with_reducible refine gate_store (p := 105) rfl ?_); refine ev_store rfl 2 12 HS (seg := [.string t52.1]) rfl rfl rfl rfl rfl rfl (by kernel_rfl) (by simp [wrt]) (by simp [Value.oneCell']) ?_; clear HS; (try clear F); intro w54 HS; (try simp only [hpn, hpm] at HS); have F := HS.boxes; simp only [bxn] at F) | ((with_reducible refine gate_dst (N := 108) rfl ?_); refine ev_call rfl Tryd.func11 (by kernel_rfl) rfl #[.agg #[.int .i64 t104001.1, .string t109001.1, .string t124001.1, .int .i64 t114001.1, .int .i64 t119001.1, .string t129001.1, .bool t134001.1, .int .i64 t139001.1, .int .i64 t144001.1, .slice B43 t42.1.length d43, .slice B204002 t204001.1.length d204002, .slice B209002 t209001.1.length d209002, .string t52.1]] rfl (by simp only [mpn]; rfl) ?_; refine (impl_CertText.calls ht56.out (HS.rd 3 rfl) m43 (HS.rd 4 rfl) m204002 (HS.rd 5 rfl) m209002 (hV.keepc HS hgM)).mono ?_; rintro _ wt56 ⟨rfl, HQ⟩; refine ⟨_, rfl, ?_⟩; replace HS := HS.call HQ; clear HQ; (try clear F); (try simp only [hpn, hpm] at HS); have F := HS.boxes; simp only [bxn] at F; (try simp only [c58]); (try simp only [c61])) | ((with_reducible refine gate_store (p := 2) rfl ?_); refine ev_store rfl 0 0 HS (seg := [.int .i64 0, .string (⟨#[]⟩ : ByteArray), .string (⟨#[]⟩ : ByteArray), .int .i64 0, .int .i64 0, .string (⟨#[]⟩ : ByteArray), .bool false, .int .i64 0, .int .i64 0, .slice none 0 0, .slice none 0 0, .slice none 0 0, .string (⟨#[]⟩ : ByteArray)]) rfl rfl rfl rfl rfl rfl (by kernel_rfl) (by simp [wrt]) (by simp [Value.oneCell']) ?_; clear HS; (try clear F); intro w67 HS; (try simp only [hpn, hpm] at HS); have F := HS.boxes; simp only [bxn] at F))
  have HS := HB35 _ _ HS (Nat.le_of_ble_eq_true rfl)
  have HS := HB27 _ _ HS (Nat.le_of_ble_eq_true rfl)
  have HS := HB19 _ _ HS (Nat.le_of_ble_eq_true rfl)
  have HS := HB6 _ _ HS (Nat.le_of_ble_eq_true rfl)
  replace HS := HS.nil 3 (Zd.int .i64)
  replace HS := HS.nil 9 Zd.string
  replace HS := HS.nil 9 Zd.string
  exact bodyPost_ret (results_list (rs := [.cell 2 29, .tmp 3]) rfl (by simp) (.cell _ _ _ _ _ rfl (HS.boxAt (i := 0) rfl) Tryd.underlying29 rfl (by kernel_rfl) (.tmp .nil))) rfl ⟨_, _, _, rfl, HS.pick [11, 12, 13] (by decide) (by rfl)⟩
 replace H := zpos c61 H
 go_upto_if 123 with (first | ((with_reducible refine gate_dst (N := 104) rfl ?_); refine HS.lend [1] (by decide) [.box g22 [.bool t209001.2.f0] 86] rfl (fun A' HL HD HA HB => ?_); refine ev_call rfl Tryd.func54 (by kernel_rfl) rfl #[.pointer (some ⟨g22, 0, none⟩), .agg #[.int .i64 ((rd_T65 y18 1).f0), .string ((rd_T65 y18 1).f1), .slice B51_2 (rd_T65 y18 1).f2.length d51_2], .int .i64 4] rfl (by simp only [mpn]; rfl) ?_; refine (impl_opener_text_0.calls ht52.out y51_2 m51_2 (hV.lend HS HL) HA).mono ?_; rintro _ wt52 ⟨rfl, HQ⟩; refine ⟨_, rfl, ?_⟩; replace HS := HB _ _ HQ (Nat.le_of_ble_eq_true rfl); clear HQ HA HB HL HD; (try simp only [hpn, hpm] at HS); (try clear F); (try simp only [hpn, hpm] at HS); have F := HS.boxes; simp only [bxn] at F) | ((with_reducible refine gate_store (p := 105) rfl ?_); refine ev_store rfl 2 12 HS (seg := [.string t52.1]) rfl rfl rfl rfl rfl rfl (by kernel_rfl) (by simp [wrt]) (by simp [Value.oneCell']) ?_; clear HS; (try clear F); intro w54 HS; (try simp only [hpn, hpm] at HS); have F := HS.boxes; simp only [bxn] at F) | ((with_reducible refine gate_dst (N := 108) rfl ?_); refine ev_call rfl Tryd.func11 (by kernel_rfl) rfl #[.agg #[.int .i64 t104001.1, .string t109001.1, .string t124001.1, .int .i64 t114001.1, .int .i64 t119001.1, .string t129001.1, .bool t134001.1, .int .i64 t139001.1, .int .i64 t144001.1, .slice B43 t42.1.length d43, .slice B204002 t204001.1.length d204002, .slice B209002 t209001.1.length d209002, .string t52.1]] rfl (by simp only [mpn]; rfl) ?_; refine (impl_CertText.calls ht56.out (HS.rd 3 rfl) m43 (HS.rd 4 rfl) m204002 (HS.rd 5 rfl) m209002 (hV.keepc HS hgM)).mono ?_; rintro _ wt56 ⟨rfl, HQ⟩; refine ⟨_, rfl, ?_⟩; replace HS := HS.call HQ; clear HQ; (try clear F); (try simp only [hpn, hpm] at HS); have F := HS.boxes; simp only [bxn] at F; (try simp only [c58]); (try simp only [c61])))
 by_cases c62 : t56.1.toList = a0.toList
 case pos =>
  replace H := zpos c62 H
  have c62a := beq_iff_eq.mpr c62
  have c62b := bne_eq_false_iff_eq.mpr c62
  clear c62
  (try simp only [c62a, c62b, dcn])
  obtain ⟨rfl, rfl⟩ := zsome2 H
  go_wp2_with (first | ((with_reducible refine gate_store (p := 2) rfl ?_); refine ev_store rfl 0 0 HS (seg := [.int .i64 t104001.1, .string t109001.1, .string t124001.1, .int .i64 t114001.1, .int .i64 t119001.1, .string t129001.1, .bool t134001.1, .int .i64 t139001.1, .int .i64 t144001.1, .slice B43 t42.1.length d43, .slice B204002 t204001.1.length d204002, .slice B209002 t209001.1.length d209002, .string t52.1]) rfl rfl rfl rfl rfl rfl (by kernel_rfl) (by simp [wrt]) (by simp [Value.oneCell']) ?_; clear HS; (try clear F); intro w63 HS; (try simp only [hpn, hpm] at HS); have F := HS.boxes; simp only [bxn] at F))
  have HS := HB35 _ _ HS (Nat.le_of_ble_eq_true rfl)
  have HS := HB27 _ _ HS (Nat.le_of_ble_eq_true rfl)
  have HS := HB19 _ _ HS (Nat.le_of_ble_eq_true rfl)
  have HS := HB6 _ _ HS (Nat.le_of_ble_eq_true rfl)
  exact bodyPost_ret (results_list (rs := [.cell 2 29, .tmp 3]) rfl (by simp) (.cell _ _ _ _ _ rfl (HS.boxAt (i := 0) rfl) Tryd.underlying29 rfl (by kernel_rfl) (.tmp .nil))) rfl ⟨_, _, _, rfl, HS.pick [8, 9, 10] (by decide) (by rfl)⟩
 replace H := zneg c62 H
 have c62a := beq_eq_false_iff_ne.mpr c62
 have c62b := bne_iff_ne.mpr c62
 clear c62
 (try simp only [c62a, c62b, dcn])
 obtain ⟨rfl, rfl⟩ := zsome2 H
 go_wp2_with (first | ((with_reducible refine gate_store (p := 2) rfl ?_); refine ev_store rfl 0 0 HS (seg := [.int .i64 0, .string (⟨#[]⟩ : ByteArray), .string (⟨#[]⟩ : ByteArray), .int .i64 0, .int .i64 0, .string (⟨#[]⟩ : ByteArray), .bool false, .int .i64 0, .int .i64 0, .slice none 0 0, .slice none 0 0, .slice none 0 0, .string (⟨#[]⟩ : ByteArray)]) rfl rfl rfl rfl rfl rfl (by kernel_rfl) (by simp [wrt]) (by simp [Value.oneCell']) ?_; clear HS; (try clear F); intro w65 HS; (try simp only [hpn, hpm] at HS); have F := HS.boxes; simp only [bxn] at F))
 have HS := HB35 _ _ HS (Nat.le_of_ble_eq_true rfl)
 have HS := HB27 _ _ HS (Nat.le_of_ble_eq_true rfl)
 have HS := HB19 _ _ HS (Nat.le_of_ble_eq_true rfl)
 have HS := HB6 _ _ HS (Nat.le_of_ble_eq_true rfl)
 replace HS := HS.nil 3 (Zd.int .i64)
 replace HS := HS.nil 9 Zd.string
 replace HS := HS.nil 9 Zd.string
 exact bodyPost_ret (results_list (rs := [.cell 2 29, .tmp 3]) rfl (by simp) (.cell _ _ _ _ _ rfl (HS.boxAt (i := 0) rfl) Tryd.underlying29 rfl (by kernel_rfl) (.tmp .nil))) rfl ⟨_, _, _, rfl, HS.pick [11, 12, 13] (by decide) (by rfl)⟩
end Go.Proofs.YtoaoncnbimcdgaaDoor.F
