/- Functions of the program and of the law, and that their calls do what is written here. -/
import Derived.Test.YtoaoncnbimcdgaaDoorZgFnExactReadCrli
import Derived.Test.YtoaoncnbimcdgaaDoorZgFnExactReadCrlj
import Derived.Test.YtoaoncnbimcdgaaDoorZgFnExactReadCrlm
namespace Go.Proofs.YtoaoncnbimcdgaaDoor.F
open Go.RowKit Go.Proofs.YtoaoncnbimcdgaaDoorW.PrintWords Go.Proofs.YtoaoncnbimcdgaaDoorW.PrintLast Go.Proofs.YtoaoncnbimcdgaaDoorW.PrintMore Go.Proofs.YtoaoncnbimcdgaaDoor.Z
attribute [local go_sem] max2_int min2_int max_two min_two max_three min_three max_four min_four
set_option linter.unusedVariables false
set_option linter.unusedSimpArgs false
set_option maxRecDepth 100000
/-! ### impl_ReadCrl: function 24 -/
def impl_ReadCrl.l0 : Nat → (List S82) → Int → Bool → ByteArray → (List S65) → ByteArray × S86 → Int × S86 → Int × S86 → Int × S86 → Int × S86 → (List S65) → Option (S50 × Bool)
  | 0, _, _, _, _, _, _, _, _, _, _, _ => none
  | k + 1, l87, x89, x90, a0, y18, t104001, t109001, t114001, t119001, t124001, y37 => (if x89 < (y37.length : Int) then (if 0 ≤ x89 then (if x89 < (y37.length : Int) then ((impl_opener_list_0.f (⟨x90⟩ : S86) (rd_T65 y37 x89) 2).bind fun t100 => (lets (cond t100.1.1 ((rd_T65 y37 x89).f2) (List.replicate t100.1.2 z65)) fun y103 => (if 0 < (y103.length : Int) then ((impl_opener_num_0.f k t100.2 (rd_T65 y103 0)).bind fun t406001 => (if 1 < (y103.length : Int) then ((impl_opener_num_0.f k t406001.2 (rd_T65 y103 1)).bind fun t411001 => (if l87.length + 1 ≤ 8796093022208 then (lets (l87 ++ ([(⟨t406001.1, t411001.1⟩ : S82)] : List S82)) fun y414999 => (impl_ReadCrl.l0 k y414999 (wrap64 (x89 + 1)) t411001.2.f0 a0 y18 t104001 t109001 t114001 t119001 t124001 y37)) else none)) else none)) else none))) else none) else none) else (if 1 < (y18.length : Int) then ((impl_opener_text_0.f (⟨x90⟩ : S86) (rd_T65 y18 1) 4).bind fun t111 => ((impl_CrlText.f k (⟨t104001.1, t109001.1, t114001.1, t119001.1, t124001.1, l87, t111.1⟩ : S50)).bind fun t115 => (if t111.2.f0 = true then (some ((⟨(⟨#[]⟩ : ByteArray), 0, 0, 0, 0, ([] : List S82), (⟨#[]⟩ : ByteArray)⟩ : S50), false)) else (if t115.2 = true then (if t115.1.toList = a0.toList then (some ((⟨t104001.1, t109001.1, t114001.1, t119001.1, t124001.1, l87, t111.1⟩ : S50), true)) else (some ((⟨(⟨#[]⟩ : ByteArray), 0, 0, 0, 0, ([] : List S82), (⟨#[]⟩ : ByteArray)⟩ : S50), false))) else (some ((⟨(⟨#[]⟩ : ByteArray), 0, 0, 0, 0, ([] : List S82), (⟨#[]⟩ : ByteArray)⟩ : S50), false)))))) else none))
def impl_ReadCrl.f (k : Nat) (a0 : ByteArray) : Option (S50 × Bool) := ((impl_ReadItem.f k a0).bind fun t3 => (if t3.2 = true then ((impl_opener_list_0.f (⟨false⟩ : S86) t3.1 2).bind fun t15 => (lets (cond t15.1.1 t3.1.f2 (List.replicate t15.1.2 z65)) fun y18 => (if 0 < (y18.length : Int) then ((impl_opener_list_0.f t15.2 (rd_T65 y18 0) 6).bind fun t23 => (lets (cond t23.1.1 ((rd_T65 y18 0).f2) (List.replicate t23.1.2 z65)) fun y26 => (if 0 < (y26.length : Int) then ((impl_opener_text_0.f t23.2 (rd_T65 y26 0) 12).bind fun t104001 => (if 1 < (y26.length : Int) then ((impl_opener_num_0.f k t104001.2 (rd_T65 y26 1)).bind fun t109001 => (if 2 < (y26.length : Int) then ((impl_opener_num_0.f k t109001.2 (rd_T65 y26 2)).bind fun t114001 => (if 3 < (y26.length : Int) then ((impl_opener_num_0.f k t114001.2 (rd_T65 y26 3)).bind fun t119001 => (if 4 < (y26.length : Int) then ((impl_opener_num_0.f k t119001.2 (rd_T65 y26 4)).bind fun t124001 => (if 5 < (y26.length : Int) then ((impl_opener_list_0.f t124001.2 (rd_T65 y26 5) (-1)).bind fun t34 => (lets (cond t34.1.1 ((rd_T65 y26 5).f2) (List.replicate t34.1.2 z65)) fun y37 => (impl_ReadCrl.l0 k [] 0 t34.2.f0 a0 y18 t104001 t109001 t114001 t119001 t124001 y37))) else none)) else none)) else none)) else none)) else none)) else none))) else none))) else (some ((⟨(⟨#[]⟩ : ByteArray), 0, 0, 0, 0, ([] : List S82), (⟨#[]⟩ : ByteArray)⟩ : S50), false))))
def impl_ReadCrl.T7 : Bool × List (List Nat × List Nat) := (true, [([], []), ([], []), ([1], [1]), ([2], [2]), ([0, 3], [0, 3]), ([], []), ([], []), ([6], [6]), ([7], [7]), ([5, 8, 4], [5, 8]), ([], []), ([], []), ([11], [11]), ([12], [12]), ([10, 13, 9], [10, 13]), ([], []), ([], []), ([16], [16]), ([17], [17]), ([15, 18, 14], [15, 18]), ([], []), ([], []), ([21], [21]), ([22], [22]), ([20, 23, 19], [20, 23]), ([4, 9, 14, 19, 24], [4, 9, 14, 19, 24]), ([], []), ([26, 25, 24, 0, 1, 2, 3, 4, 5, 6, 7, 8, 9, 10, 11, 12, 13, 14, 15, 16, 17, 18, 19, 20, 21, 22, 23, 24, 25, 26], [25, 26])])
theorem impl_ReadCrl.tT7 : rtab .any (opsOf Tryd.f24 7) = impl_ReadCrl.T7 := by kernel_rfl
def impl_ReadCrl.T12 : Bool × List (List Nat × List Nat) := (true, [([], []), ([0], [0]), ([], []), ([], []), ([3], [3]), ([4], [4]), ([2, 5], [2, 5]), ([], []), ([], []), ([8], [8]), ([9], [9]), ([7, 10, 6], [7, 10]), ([6, 11], [6, 11]), ([12], [12]), ([1, 13, 11], [1, 13]), ([0, 1, 2, 3, 4, 5, 6, 7, 8, 9, 10, 11, 12, 13, 14], []), ([15, 14, 14, 0, 1, 2, 3, 4, 5, 6, 7, 8, 9, 10, 11, 12, 13, 14], [14, 15])])
theorem impl_ReadCrl.tT12 : rtab .any (opsOf Tryd.f24 12) = impl_ReadCrl.T12 := by kernel_rfl
set_option maxHeartbeats 16000000 in
theorem impl_ReadCrl.calls {k : Nat} {a0 : ByteArray} {mG : Int} {r1 : S50} {r2 : Bool} {w : World} (h : impl_ReadCrl.f k a0 = some (r1, r2)) (hgM : w.cell? ⟨0, 0, none⟩ = some (.int .i64 mG)) :
    Calls Tryd.prog 24 #[.string a0] w (fun e w' => ∃ v0_ : Value, e = .returned (.tuple #[.agg #[.string r1.f0, .int .i64 r1.f1, .int .i64 r1.f2, .int .i64 r1.f3, .int .i64 r1.f4, v0_, .string r1.f6], .bool r2]) ∧ Hp noFP w w' [.own (Zd.slice 82 q82) r1.f5 [v0_]]) := by
 have HS := Hp.start w
 have H := Aside0.mk h
 clear h
 unfold impl_ReadCrl.f at H
 go_enter Tryd.func24, Tryd.ntmps24
 replace H := zbind H; obtain ⟨t3, ht3, H⟩ := H
 go_upto_if 21 with (first | ((with_reducible refine gate_dst (N := 2) rfl ?_); refine ev_box rfl HS (by first | (go_simp; done) | (go_simp; rfl)) rfl ?_; clear HS; (try clear F); intro g2 w2 HS; (try simp only [hpn, hpm] at HS); have F := HS.boxes; simp only [boxFacts, and_true] at F) | ((with_reducible refine gate_dst (N := 17) rfl ?_); refine ev_call rfl Tryd.func52 (by kernel_rfl) rfl #[.string a0] rfl (by simp only [List.map_toArray, List.map_cons, List.map_nil]; rfl) ?_; refine (impl_ReadItem.calls ht3.out).mono ?_; rintro _ wt3 ⟨v4, rfl, HQ⟩; refine ⟨_, rfl, ?_⟩; replace HS := HS.call HQ; clear HQ; (try clear F); obtain ⟨B4, d4, rfl, m4⟩ := HS.form 1 rfl; (try simp only [hpn, hpm] at HS); have F := HS.boxes; simp only [boxFacts, and_true] at F; refine HS.lend [0] (by decide) [.box g2 [.string (⟨#[]⟩ : ByteArray), .int .i64 0, .int .i64 0, .int .i64 0, .int .i64 0, .slice none 0 0, .string (⟨#[]⟩ : ByteArray)] 50] rfl (fun A6 HL HD HA HB6 => ?_); have gb6_0 := hide_rd HD 1 rfl (by decide); (try replace hgM := HS.hidec HL hgM); replace HS := HA; have hV := hide_view A6 wt3; clear HA HD HL; (try clear F); replace HS : Hp A6 wt3 _ [.box g2 [.string (⟨#[]⟩ : ByteArray), .int .i64 0, .int .i64 0, .int .i64 0, .int .i64 0, .slice none 0 0, .string (⟨#[]⟩ : ByteArray)] 50] := HS; have F := HS.boxes; simp only [boxFacts, and_true] at F) | ((with_reducible refine gate_dst (N := 4) rfl ?_); refine ev_box rfl HS (by first | (go_simp; done) | (go_simp; rfl)) rfl ?_; clear HS; (try clear F); intro g4 w4 HS; (try simp only [hpn, hpm] at HS); have F := HS.boxes; simp only [boxFacts, and_true] at F) | ((with_reducible refine gate_store (p := 4) rfl ?_); refine ev_store rfl 1 0 HS (seg := [.int .i64 t3.1.f0, .string t3.1.f1, .slice B4 t3.1.f2.length d4]) rfl rfl rfl rfl rfl rfl (by kernel_rfl) (by simp [wrt]) (by simp [Value.oneCell']) ?_; clear HS; (try clear F); intro w10 HS; (try simp only [hpn, hpm] at HS); have F := HS.boxes; simp only [boxFacts, and_true] at F))
 by_cases c12 : t3.2 = true
 · replace H := zpos c12 H
   (try simp only [c12, dcn])
   replace H := zbind H; obtain ⟨t15, ht15, H⟩ := H
   replace H := zlets H; obtain ⟨y18, e_y18, H⟩ := H
   by_cases c21 : 0 < (y18.length : Int)
   case neg => exact zno c21 H
   replace H := zpos c21 H
   replace c21 := eq_true c21
   have c21n : (0 < y18.length) = True := eq_true (by have := of_eq_true c21; omega)
   replace H := zbind H; obtain ⟨t23, ht23, H⟩ := H
   replace H := zlets H; obtain ⟨y26, e_y26, H⟩ := H
   go_wp2_with (first | ((with_reducible refine gate_dst (N := 24) rfl ?_); refine ev_box rfl HS (by first | (go_simp; done) | (go_simp; rfl)) rfl ?_; clear HS; (try clear F); intro g24 w24 HS; (try simp only [hpn, hpm] at HS); have F := HS.boxes; simp only [boxFacts, and_true] at F) | ((with_reducible refine gate_dst (N := 27) rfl ?_); refine HS.lend [2] (by decide) [.box g24 [.bool false] 86] rfl (fun A' HL HD HA HB => ?_); refine ev_call rfl Tryd.func53 (by kernel_rfl) rfl #[.pointer (some ⟨g24, 0, none⟩), .agg #[.int .i64 t3.1.f0, .string t3.1.f1, .slice B4 t3.1.f2.length d4], .int .i64 2] rfl (by simp only [List.map_toArray, List.map_cons, List.map_nil]; rfl) ?_; refine (impl_opener_list_0.calls ht15.out gb6_0 m4 (hV.lend HS HL) HA).mono ?_; rintro _ wt15 ⟨v16, rfl, HQ⟩; refine ⟨_, rfl, ?_⟩; replace HS := HB _ _ HQ (Nat.le_of_ble_eq_true rfl); clear HQ HA HB HL HD; (try simp only [hpn, hpm] at HS); (try clear F); obtain ⟨B16, d16, rfl, m16⟩ := HS.formn t15.1.2 3 rfl (by first | rfl | simp); refine HS.lend [0, 2] (by decide) [.box g2 [.string (⟨#[]⟩ : ByteArray), .int .i64 0, .int .i64 0, .int .i64 0, .int .i64 0, .slice none 0 0, .string (⟨#[]⟩ : ByteArray)] 50, .box g24 [.bool t15.2.f0] 86] rfl (fun A19 HL HD HA HB19 => ?_); have gb19_0 := hV.hideC km65 HS HL gb6_0; have zg4_b19_0 := hide_box HD 1 rfl (by decide) (j := 0) rfl; have zg4_b19_1 := hide_box HD 1 rfl (by decide) (j := 1) rfl; have zg4_b19_2 := hide_box HD 1 rfl (by decide) (j := 2) rfl; have gb19_1 := hide_rd HD 3 rfl (by decide); (try replace hgM := hV.hidec HS HL hgM); replace HS := HA; replace hV := hide_view A19 wt15; clear HA HD HL; (try clear F); replace HS : Hp A19 wt15 _ [.box g2 [.string (⟨#[]⟩ : ByteArray), .int .i64 0, .int .i64 0, .int .i64 0, .int .i64 0, .slice none 0 0, .string (⟨#[]⟩ : ByteArray)] 50, .box g24 [.bool t15.2.f0] 86] := HS; have F := HS.boxes; simp only [boxFacts, and_true] at F; obtain ⟨B18, d18, ej18, m18, gj18⟩ := join_row e_y18.out gb19_0 m4 gb19_1 m16; rw [ej18]; (try simp only [hpn, hpm] at HS); have F := HS.boxes; simp only [boxFacts, and_true] at F; obtain ⟨ad22, B22_2, d22_2, rfl, e22_0, e22_1, e22_2, m22_2, y22_2⟩ := at_T65 gj18 0 (of_eq_true (eq_true (by decide))) (of_eq_true c21); (try (have e22_0' := e22_0; simp only [Int.toNat_zero, Int.reduceToNat, Int.toNat_natCast, Nat.zero_mul, Nat.one_mul, Nat.zero_add, Nat.add_zero, Addr.add_zero', Addr.add_succ', Nat.reduceMul, Nat.reduceAdd] at e22_0')); (try (have e22_1' := e22_1; simp only [Int.toNat_zero, Int.reduceToNat, Int.toNat_natCast, Nat.zero_mul, Nat.one_mul, Nat.zero_add, Nat.add_zero, Addr.add_zero', Addr.add_succ', Nat.reduceMul, Nat.reduceAdd] at e22_1')); (try (have e22_2' := e22_2; simp only [Int.toNat_zero, Int.reduceToNat, Int.toNat_natCast, Nat.zero_mul, Nat.one_mul, Nat.zero_add, Nat.add_zero, Addr.add_zero', Addr.add_succ', Nat.reduceMul, Nat.reduceAdd] at e22_2')); have e22_0_22 := (hV.keepc HS e22_0); have e22_1_22 := (hV.keepc HS e22_1); have e22_2_22 := (hV.keepc HS e22_2); (try have e22_0'_22 := (hV.keepc HS e22_0')); (try have e22_1'_22 := (hV.keepc HS e22_1')); (try have e22_2'_22 := (hV.keepc HS e22_2'))) | ((with_reducible refine gate_dst (N := 32) rfl ?_); refine HS.lend [1] (by decide) [.box g24 [.bool t15.2.f0] 86] rfl (fun A' HL HD HA HB => ?_); refine ev_call rfl Tryd.func53 (by kernel_rfl) rfl #[.pointer (some ⟨g24, 0, none⟩), .agg #[.int .i64 ((rd_T65 y18 0).f0), .string ((rd_T65 y18 0).f1), .slice B22_2 (rd_T65 y18 0).f2.length d22_2], .int .i64 6] rfl (by simp only [List.map_toArray, List.map_cons, List.map_nil]; rfl) ?_; refine (impl_opener_list_0.calls ht23.out y22_2 m22_2 (hV.lend HS HL) HA).mono ?_; rintro _ wt23 ⟨v24, rfl, HQ⟩; refine ⟨_, rfl, ?_⟩; replace HS := HB _ _ HQ (Nat.le_of_ble_eq_true rfl); clear HQ HA HB HL HD; (try simp only [hpn, hpm] at HS); (try clear F); obtain ⟨B24, d24, rfl, m24⟩ := HS.formn t23.1.2 2 rfl (by first | rfl | simp); refine HS.lend [0, 1] (by decide) [.box g2 [.string (⟨#[]⟩ : ByteArray), .int .i64 0, .int .i64 0, .int .i64 0, .int .i64 0, .slice none 0 0, .string (⟨#[]⟩ : ByteArray)] 50, .box g24 [.bool t23.2.f0] 86] rfl (fun A27 HL HD HA HB27 => ?_); have gb27_0 := hV.hideC km65 HS HL gb19_0; have zg4_b19_0_b27 := hV.hidec HS HL zg4_b19_0; have zg4_b19_1_b27 := hV.hidec HS HL zg4_b19_1; have zg4_b19_2_b27 := hV.hidec HS HL zg4_b19_2; have gb27_4 := hV.hideC km65 HS HL gj18; have gb27_5 := hV.hideC km65 HS HL y22_2; have gb27_6 := hide_rd HD 2 rfl (by decide); (try replace hgM := hV.hidec HS HL hgM); replace HS := HA; replace hV := hide_view A27 wt23; clear HA HD HL; (try clear F); replace HS : Hp A27 wt23 _ [.box g2 [.string (⟨#[]⟩ : ByteArray), .int .i64 0, .int .i64 0, .int .i64 0, .int .i64 0, .slice none 0 0, .string (⟨#[]⟩ : ByteArray)] 50, .box g24 [.bool t23.2.f0] 86] := HS; have F := HS.boxes; simp only [boxFacts, and_true] at F; obtain ⟨B26, d26, ej26, m26, gj26⟩ := join_row e_y26.out gb27_5 m22_2 gb27_6 m24; rw [ej26]; (try simp only [hpn, hpm] at HS); have F := HS.boxes; simp only [boxFacts, and_true] at F))
   by_cases c102001 : 0 < (y26.length : Int)
   case neg => exact zno c102001 H
   replace H := zpos c102001 H
   replace c102001 := eq_true c102001
   have c102001n : (0 < y26.length) = True := eq_true (by have := of_eq_true c102001; omega)
   obtain ⟨ad102999, B102999_2, d102999_2, rfl, e102999_0, e102999_1, e102999_2, m102999_2, y102999_2⟩ := at_T65 gj26 0 (of_eq_true (eq_true (by decide))) (of_eq_true c102001); (try (have e102999_0' := e102999_0; simp only [Int.toNat_zero, Int.reduceToNat, Int.toNat_natCast, Nat.zero_mul, Nat.one_mul, Nat.zero_add, Nat.add_zero, Addr.add_zero', Addr.add_succ', Nat.reduceMul, Nat.reduceAdd] at e102999_0')); (try (have e102999_1' := e102999_1; simp only [Int.toNat_zero, Int.reduceToNat, Int.toNat_natCast, Nat.zero_mul, Nat.one_mul, Nat.zero_add, Nat.add_zero, Addr.add_zero', Addr.add_succ', Nat.reduceMul, Nat.reduceAdd] at e102999_1')); (try (have e102999_2' := e102999_2; simp only [Int.toNat_zero, Int.reduceToNat, Int.toNat_natCast, Nat.zero_mul, Nat.one_mul, Nat.zero_add, Nat.add_zero, Addr.add_zero', Addr.add_succ', Nat.reduceMul, Nat.reduceAdd] at e102999_2'))
   replace H := zbind H; obtain ⟨t104001, ht104001, H⟩ := H
   by_cases c107001 : 1 < (y26.length : Int)
   case neg => exact zno c107001 H
   replace H := zpos c107001 H
   replace c107001 := eq_true c107001
   have c107001n : (1 < y26.length) = True := eq_true (by have := of_eq_true c107001; omega)
   obtain ⟨ad107999, B107999_2, d107999_2, hq107999, e107999_0, e107999_1, e107999_2, m107999_2, y107999_2⟩ := at_T65 gj26 1 (of_eq_true (eq_true (by decide))) (of_eq_true c107001); obtain rfl := Option.some.inj hq107999; (try (have e107999_0' := e107999_0; simp only [Int.toNat_zero, Int.reduceToNat, Int.toNat_natCast, Nat.zero_mul, Nat.one_mul, Nat.zero_add, Nat.add_zero, Addr.add_zero', Addr.add_succ', Nat.reduceMul, Nat.reduceAdd] at e107999_0')); (try (have e107999_1' := e107999_1; simp only [Int.toNat_zero, Int.reduceToNat, Int.toNat_natCast, Nat.zero_mul, Nat.one_mul, Nat.zero_add, Nat.add_zero, Addr.add_zero', Addr.add_succ', Nat.reduceMul, Nat.reduceAdd] at e107999_1')); (try (have e107999_2' := e107999_2; simp only [Int.toNat_zero, Int.reduceToNat, Int.toNat_natCast, Nat.zero_mul, Nat.one_mul, Nat.zero_add, Nat.add_zero, Addr.add_zero', Addr.add_succ', Nat.reduceMul, Nat.reduceAdd] at e107999_2'))
   replace H := zbind H; obtain ⟨t109001, ht109001, H⟩ := H
   by_cases c112001 : 2 < (y26.length : Int)
   case neg => exact zno c112001 H
   replace H := zpos c112001 H
   replace c112001 := eq_true c112001
   have c112001n : (2 < y26.length) = True := eq_true (by have := of_eq_true c112001; omega)
   obtain ⟨ad112999, B112999_2, d112999_2, hq112999, e112999_0, e112999_1, e112999_2, m112999_2, y112999_2⟩ := at_T65 gj26 2 (of_eq_true (eq_true (by decide))) (of_eq_true c112001); obtain rfl := Option.some.inj hq112999; (try (have e112999_0' := e112999_0; simp only [Int.toNat_zero, Int.reduceToNat, Int.toNat_natCast, Nat.zero_mul, Nat.one_mul, Nat.zero_add, Nat.add_zero, Addr.add_zero', Addr.add_succ', Nat.reduceMul, Nat.reduceAdd] at e112999_0')); (try (have e112999_1' := e112999_1; simp only [Int.toNat_zero, Int.reduceToNat, Int.toNat_natCast, Nat.zero_mul, Nat.one_mul, Nat.zero_add, Nat.add_zero, Addr.add_zero', Addr.add_succ', Nat.reduceMul, Nat.reduceAdd] at e112999_1')); (try (have e112999_2' := e112999_2; simp only [Int.toNat_zero, Int.reduceToNat, Int.toNat_natCast, Nat.zero_mul, Nat.one_mul, Nat.zero_add, Nat.add_zero, Addr.add_zero', Addr.add_succ', Nat.reduceMul, Nat.reduceAdd] at e112999_2'))
   replace H := zbind H; obtain ⟨t114001, ht114001, H⟩ := H
   by_cases c117001 : 3 < (y26.length : Int)
   case neg => exact zno c117001 H
   replace H := zpos c117001 H
   replace c117001 := eq_true c117001
   have c117001n : (3 < y26.length) = True := eq_true (by have := of_eq_true c117001; omega)
   obtain ⟨ad117999, B117999_2, d117999_2, hq117999, e117999_0, e117999_1, e117999_2, m117999_2, y117999_2⟩ := at_T65 gj26 3 (of_eq_true (eq_true (by decide))) (of_eq_true c117001); obtain rfl := Option.some.inj hq117999; (try (have e117999_0' := e117999_0; simp only [Int.toNat_zero, Int.reduceToNat, Int.toNat_natCast, Nat.zero_mul, Nat.one_mul, Nat.zero_add, Nat.add_zero, Addr.add_zero', Addr.add_succ', Nat.reduceMul, Nat.reduceAdd] at e117999_0')); (try (have e117999_1' := e117999_1; simp only [Int.toNat_zero, Int.reduceToNat, Int.toNat_natCast, Nat.zero_mul, Nat.one_mul, Nat.zero_add, Nat.add_zero, Addr.add_zero', Addr.add_succ', Nat.reduceMul, Nat.reduceAdd] at e117999_1')); (try (have e117999_2' := e117999_2; simp only [Int.toNat_zero, Int.reduceToNat, Int.toNat_natCast, Nat.zero_mul, Nat.one_mul, Nat.zero_add, Nat.add_zero, Addr.add_zero', Addr.add_succ', Nat.reduceMul, Nat.reduceAdd] at e117999_2'))
   replace H := zbind H; obtain ⟨t119001, ht119001, H⟩ := H
   by_cases c122001 : 4 < (y26.length : Int)
   case neg => exact zno c122001 H
   replace H := zpos c122001 H
   replace c122001 := eq_true c122001
   have c122001n : (4 < y26.length) = True := eq_true (by have := of_eq_true c122001; omega)
   obtain ⟨ad122999, B122999_2, d122999_2, hq122999, e122999_0, e122999_1, e122999_2, m122999_2, y122999_2⟩ := at_T65 gj26 4 (of_eq_true (eq_true (by decide))) (of_eq_true c122001); obtain rfl := Option.some.inj hq122999; (try (have e122999_0' := e122999_0; simp only [Int.toNat_zero, Int.reduceToNat, Int.toNat_natCast, Nat.zero_mul, Nat.one_mul, Nat.zero_add, Nat.add_zero, Addr.add_zero', Addr.add_succ', Nat.reduceMul, Nat.reduceAdd] at e122999_0')); (try (have e122999_1' := e122999_1; simp only [Int.toNat_zero, Int.reduceToNat, Int.toNat_natCast, Nat.zero_mul, Nat.one_mul, Nat.zero_add, Nat.add_zero, Addr.add_zero', Addr.add_succ', Nat.reduceMul, Nat.reduceAdd] at e122999_1')); (try (have e122999_2' := e122999_2; simp only [Int.toNat_zero, Int.reduceToNat, Int.toNat_natCast, Nat.zero_mul, Nat.one_mul, Nat.zero_add, Nat.add_zero, Addr.add_zero', Addr.add_succ', Nat.reduceMul, Nat.reduceAdd] at e122999_2'))
   replace H := zbind H; obtain ⟨t124001, ht124001, H⟩ := H
   refine dr_start2 [.box g2 [.string (⟨#[]⟩ : ByteArray), .int .i64 0, .int .i64 0, .int .i64 0, .int .i64 0, .slice none 0 0, .string (⟨#[]⟩ : ByteArray)] 50, .emp] [27] HS (HS.arr [some 0, none] (by decide)) #[false, false, false, false, false, false, false, false, false, false, false, false, false, false, false, false, false, false, false, false, false, false, false, false, false, false, false, false] (by kernel_rfl) rfl rfl impl_ReadCrl.tT7 (fun w30 HT HS HH => ?_)
   (try clear F)
   refine join_ 0 #[true, true, true, true, true, true, true, true, true, true, true, true, true, true, true, true, true, true, true, true, true, true, true, true, true, true, true, true] (fun ((g9, pe35, pe36, pe40, pe41, pe45, pe46, pe50, pe51, pe55, pe56) : Nat × Value × Value × Value × Value × Value × Value × Value × Value × Value × Value) => ([(33, .pointer (some ⟨g24, 0, none⟩)), (34, .slice (some ad102999) y26.length d26), (35, pe35), (36, pe36), (37, .string t104001.1), (38, .pointer (some ⟨g24, 0, none⟩)), (39, .slice (some ad102999) y26.length d26), (40, pe40), (41, pe41), (42, .int .i64 t109001.1), (43, .pointer (some ⟨g24, 0, none⟩)), (44, .slice (some ad102999) y26.length d26), (45, pe45), (46, pe46), (47, .int .i64 t114001.1), (48, .pointer (some ⟨g24, 0, none⟩)), (49, .slice (some ad102999) y26.length d26), (50, pe50), (51, pe51), (52, .int .i64 t119001.1), (53, .pointer (some ⟨g24, 0, none⟩)), (54, .slice (some ad102999) y26.length d26), (55, pe55), (56, pe56), (57, .int .i64 t124001.1), (58, .agg #[.string t104001.1, .int .i64 t109001.1, .int .i64 t114001.1, .int .i64 t119001.1, .int .i64 t124001.1, .slice none 0 0, .string (⟨#[]⟩ : ByteArray)]), (9, .pointer (some ⟨g9, 0, none⟩))] : List (Tmp × Value))) (fun ((g9, pe35, pe36, pe40, pe41, pe45, pe46, pe50, pe51, pe55, pe56) : Nat × Value × Value × Value × Value × Value × Value × Value × Value × Value × Value) w' => Hp A27 wt23 w' [.box g2 [.string (⟨#[]⟩ : ByteArray), .int .i64 0, .int .i64 0, .int .i64 0, .int .i64 0, .slice none 0 0, .string (⟨#[]⟩ : ByteArray)] 50, .box g24 [.bool t124001.2.f0] 86, .box g9 [.string t104001.1, .int .i64 t109001.1, .int .i64 t114001.1, .int .i64 t119001.1, .int .i64 t124001.1, .slice none 0 0, .string (⟨#[]⟩ : ByteArray)] 50]) ?_ ?_
   rotate_left
   · intro hJ
     refine drq_of [(0, some 33), (1, some 34), (2, some 35)] ?_
     repeat (first | (refine drq_pure HT (v := ?_) (a' := ?_) rfl rfl (by kernel_rfl) (fun _ _ _ h => h) (.inl ⟨by rfl, ?_⟩) ?_ ?_; rotate_left; (intro w'; go_simp; with_reducible rfl); rotate_left; (simp only [Act.put, List.setIfInBounds_toArray, List.set_cons_zero, List.set_cons_succ, i64_w, i32_w]; rfl)))
     refine drq_end ?_
     refine dr_take 3 (some 36) HT HH (v := ?_) (a' := ?_) rfl rfl (by kernel_rfl) (fun _ _ _ h => h) (.inl ⟨by rfl, ?_⟩) ?_ ?_
     rotate_left
     · rintro w' ⟨rs', HS'⟩; have e102999_0 := (hV.keepc HS' e102999_0); have e102999_1 := (hV.keepc HS' e102999_1); have e102999_2 := (hV.keepc HS' e102999_2); (try simp only [Int.toNat_zero, Int.reduceToNat, Int.toNat_natCast, Nat.zero_mul, Nat.one_mul, Nat.zero_add, Nat.add_zero, Addr.add_zero', Addr.add_succ', Nat.reduceMul, Nat.reduceAdd] at e102999_0 e102999_1 e102999_2); go_simp; with_reducible rfl
     rotate_left
     · simp only [Act.put, List.setIfInBounds_toArray, List.set_cons_zero, List.set_cons_succ, i64_w, i32_w]; rfl
     refine drq_of [(5, some 38), (6, some 39), (7, some 40)] ?_
     repeat (first | (refine drq_pure HT (v := ?_) (a' := ?_) rfl rfl (by kernel_rfl) (fun _ _ _ h => h) (.inl ⟨by rfl, ?_⟩) ?_ ?_; rotate_left; (intro w'; go_simp; with_reducible rfl); rotate_left; (simp only [Act.put, List.setIfInBounds_toArray, List.set_cons_zero, List.set_cons_succ, i64_w, i32_w]; rfl)))
     refine drq_end ?_
     refine dr_take 8 (some 41) HT HH (v := ?_) (a' := ?_) rfl rfl (by kernel_rfl) (fun _ _ _ h => h) (.inl ⟨by rfl, ?_⟩) ?_ ?_
     rotate_left
     · rintro w' ⟨rs', HS'⟩; have e107999_0 := (hV.keepc HS' e107999_0); have e107999_1 := (hV.keepc HS' e107999_1); have e107999_2 := (hV.keepc HS' e107999_2); (try simp only [Int.toNat_zero, Int.reduceToNat, Int.toNat_natCast, Nat.zero_mul, Nat.one_mul, Nat.zero_add, Nat.add_zero, Addr.add_zero', Addr.add_succ', Nat.reduceMul, Nat.reduceAdd] at e107999_0 e107999_1 e107999_2); go_simp; with_reducible rfl
     rotate_left
     · simp only [Act.put, List.setIfInBounds_toArray, List.set_cons_zero, List.set_cons_succ, i64_w, i32_w]; rfl
     refine drq_of [(10, some 43), (11, some 44), (12, some 45)] ?_
     repeat (first | (refine drq_pure HT (v := ?_) (a' := ?_) rfl rfl (by kernel_rfl) (fun _ _ _ h => h) (.inl ⟨by rfl, ?_⟩) ?_ ?_; rotate_left; (intro w'; go_simp; with_reducible rfl); rotate_left; (simp only [Act.put, List.setIfInBounds_toArray, List.set_cons_zero, List.set_cons_succ, i64_w, i32_w]; rfl)))
     refine drq_end ?_
     refine dr_take 13 (some 46) HT HH (v := ?_) (a' := ?_) rfl rfl (by kernel_rfl) (fun _ _ _ h => h) (.inl ⟨by rfl, ?_⟩) ?_ ?_
     rotate_left
     · rintro w' ⟨rs', HS'⟩; have e112999_0 := (hV.keepc HS' e112999_0); have e112999_1 := (hV.keepc HS' e112999_1); have e112999_2 := (hV.keepc HS' e112999_2); (try simp only [Int.toNat_zero, Int.reduceToNat, Int.toNat_natCast, Nat.zero_mul, Nat.one_mul, Nat.zero_add, Nat.add_zero, Addr.add_zero', Addr.add_succ', Nat.reduceMul, Nat.reduceAdd] at e112999_0 e112999_1 e112999_2); go_simp; with_reducible rfl
     rotate_left
     · simp only [Act.put, List.setIfInBounds_toArray, List.set_cons_zero, List.set_cons_succ, i64_w, i32_w]; rfl
     refine drq_of [(15, some 48), (16, some 49), (17, some 50)] ?_
     repeat (first | (refine drq_pure HT (v := ?_) (a' := ?_) rfl rfl (by kernel_rfl) (fun _ _ _ h => h) (.inl ⟨by rfl, ?_⟩) ?_ ?_; rotate_left; (intro w'; go_simp; with_reducible rfl); rotate_left; (simp only [Act.put, List.setIfInBounds_toArray, List.set_cons_zero, List.set_cons_succ, i64_w, i32_w]; rfl)))
     refine drq_end ?_
     refine dr_take 18 (some 51) HT HH (v := ?_) (a' := ?_) rfl rfl (by kernel_rfl) (fun _ _ _ h => h) (.inl ⟨by rfl, ?_⟩) ?_ ?_
     rotate_left
     · rintro w' ⟨rs', HS'⟩; have e117999_0 := (hV.keepc HS' e117999_0); have e117999_1 := (hV.keepc HS' e117999_1); have e117999_2 := (hV.keepc HS' e117999_2); (try simp only [Int.toNat_zero, Int.reduceToNat, Int.toNat_natCast, Nat.zero_mul, Nat.one_mul, Nat.zero_add, Nat.add_zero, Addr.add_zero', Addr.add_succ', Nat.reduceMul, Nat.reduceAdd] at e117999_0 e117999_1 e117999_2); go_simp; with_reducible rfl
     rotate_left
     · simp only [Act.put, List.setIfInBounds_toArray, List.set_cons_zero, List.set_cons_succ, i64_w, i32_w]; rfl
     refine drq_of [(20, some 53), (21, some 54), (22, some 55)] ?_
     repeat (first | (refine drq_pure HT (v := ?_) (a' := ?_) rfl rfl (by kernel_rfl) (fun _ _ _ h => h) (.inl ⟨by rfl, ?_⟩) ?_ ?_; rotate_left; (intro w'; go_simp; with_reducible rfl); rotate_left; (simp only [Act.put, List.setIfInBounds_toArray, List.set_cons_zero, List.set_cons_succ, i64_w, i32_w]; rfl)))
     refine drq_end ?_
     refine dr_take 23 (some 56) HT HH (v := ?_) (a' := ?_) rfl rfl (by kernel_rfl) (fun _ _ _ h => h) (.inl ⟨by rfl, ?_⟩) ?_ ?_
     rotate_left
     · rintro w' ⟨rs', HS'⟩; have e122999_0 := (hV.keepc HS' e122999_0); have e122999_1 := (hV.keepc HS' e122999_1); have e122999_2 := (hV.keepc HS' e122999_2); (try simp only [Int.toNat_zero, Int.reduceToNat, Int.toNat_natCast, Nat.zero_mul, Nat.one_mul, Nat.zero_add, Nat.add_zero, Addr.add_zero', Addr.add_succ', Nat.reduceMul, Nat.reduceAdd] at e122999_0 e122999_1 e122999_2); go_simp; with_reducible rfl
     rotate_left
     · simp only [Act.put, List.setIfInBounds_toArray, List.set_cons_zero, List.set_cons_succ, i64_w, i32_w]; rfl
     refine dr_any [4, 26] HT (by kernel_rfl) (by decide) (AllReadyL.cons rfl (by decide) (fun K hK => ?_) (AllReadyL.cons rfl (by decide) (fun K hK => ?_) AllReadyL.nil))
     · refine HS.lend [1] (by decide) [.box g24 [.bool t23.2.f0] 86] rfl (fun A' HL HD HA HB => ?_); refine goes_ Tryd.func54 (by kernel_rfl) rfl #[.pointer (some ⟨g24, 0, none⟩), .agg #[.int .i64 ((rd_T65 y26 0).f0), .string ((rd_T65 y26 0).f1), .slice B102999_2 (rd_T65 y26 0).f2.length d102999_2], .int .i64 12] (by rfl) rfl rfl (by simp only [List.map_toArray, List.map_cons, List.map_nil]; rfl) ?_; refine (impl_opener_text_0.calls ht104001.out y102999_2 m102999_2 (hV.lend HS HL) HA).mono ?_; rintro _ wt104001 ⟨rfl, HQ⟩; refine ⟨_, rfl, ?_⟩; replace HS := HB _ _ HQ (Nat.le_of_ble_eq_true rfl); clear HQ HA HB HL HD; (try simp only [hpn, hpm] at HS); (try clear F)
       (try simp only [hpn, hpm] at HS)
       have F := HS.boxes; simp only [boxFacts, and_true] at F
       refine hK.out _ _ ⟨[], HS.arr [some 0, none] (by decide)⟩ (fun HH => ?_)
       clear hK K
       refine norm_ (a' := ?_) ?_ ?_
       rotate_left
       · show Act.put _ (some 37) _ = _; simp only [Act.put, List.setIfInBounds_toArray, List.set_cons_zero, List.set_cons_succ, i64_w, i32_w, c12]; rfl
       refine dr_any [9, 26] HT (by kernel_rfl) (by decide) (AllReadyL.cons rfl (by decide) (fun K hK => ?_) (AllReadyL.cons rfl (by decide) (fun K hK => ?_) AllReadyL.nil))
       · refine HS.lend [1] (by decide) [.box g24 [.bool t104001.2.f0] 86] rfl (fun A' HL HD HA HB => ?_); refine goes_ Tryd.func55 (by kernel_rfl) rfl #[.pointer (some ⟨g24, 0, none⟩), .agg #[.int .i64 ((rd_T65 y26 1).f0), .string ((rd_T65 y26 1).f1), .slice B107999_2 (rd_T65 y26 1).f2.length d107999_2]] (by rfl) rfl rfl (by simp only [List.map_toArray, List.map_cons, List.map_nil]; rfl) ?_; refine (impl_opener_num_0.calls ht109001.out y107999_2 m107999_2 (hV.lend HS HL) HA).mono ?_; rintro _ wt109001 ⟨rfl, HQ⟩; refine ⟨_, rfl, ?_⟩; replace HS := HB _ _ HQ (Nat.le_of_ble_eq_true rfl); clear HQ HA HB HL HD; (try simp only [hpn, hpm] at HS); (try clear F)
         (try simp only [hpn, hpm] at HS)
         have F := HS.boxes; simp only [boxFacts, and_true] at F
         refine hK.out _ _ ⟨[], HS.arr [some 0, none] (by decide)⟩ (fun HH => ?_)
         clear hK K
         refine norm_ (a' := ?_) ?_ ?_
         rotate_left
         · show Act.put _ (some 42) _ = _; simp only [Act.put, List.setIfInBounds_toArray, List.set_cons_zero, List.set_cons_succ, i64_w, i32_w, c12]; rfl
         refine dr_any [14, 26] HT (by kernel_rfl) (by decide) (AllReadyL.cons rfl (by decide) (fun K hK => ?_) (AllReadyL.cons rfl (by decide) (fun K hK => ?_) AllReadyL.nil))
         · refine HS.lend [1] (by decide) [.box g24 [.bool t109001.2.f0] 86] rfl (fun A' HL HD HA HB => ?_); refine goes_ Tryd.func55 (by kernel_rfl) rfl #[.pointer (some ⟨g24, 0, none⟩), .agg #[.int .i64 ((rd_T65 y26 2).f0), .string ((rd_T65 y26 2).f1), .slice B112999_2 (rd_T65 y26 2).f2.length d112999_2]] (by rfl) rfl rfl (by simp only [List.map_toArray, List.map_cons, List.map_nil]; rfl) ?_; refine (impl_opener_num_0.calls ht114001.out y112999_2 m112999_2 (hV.lend HS HL) HA).mono ?_; rintro _ wt114001 ⟨rfl, HQ⟩; refine ⟨_, rfl, ?_⟩; replace HS := HB _ _ HQ (Nat.le_of_ble_eq_true rfl); clear HQ HA HB HL HD; (try simp only [hpn, hpm] at HS); (try clear F)
           (try simp only [hpn, hpm] at HS)
           have F := HS.boxes; simp only [boxFacts, and_true] at F
           refine hK.out _ _ ⟨[], HS.arr [some 0, none] (by decide)⟩ (fun HH => ?_)
           clear hK K
           refine norm_ (a' := ?_) ?_ ?_
           rotate_left
           · show Act.put _ (some 47) _ = _; simp only [Act.put, List.setIfInBounds_toArray, List.set_cons_zero, List.set_cons_succ, i64_w, i32_w, c12]; rfl
           refine dr_any [19, 26] HT (by kernel_rfl) (by decide) (AllReadyL.cons rfl (by decide) (fun K hK => ?_) (AllReadyL.cons rfl (by decide) (fun K hK => ?_) AllReadyL.nil))
           · refine HS.lend [1] (by decide) [.box g24 [.bool t114001.2.f0] 86] rfl (fun A' HL HD HA HB => ?_); refine goes_ Tryd.func55 (by kernel_rfl) rfl #[.pointer (some ⟨g24, 0, none⟩), .agg #[.int .i64 ((rd_T65 y26 3).f0), .string ((rd_T65 y26 3).f1), .slice B117999_2 (rd_T65 y26 3).f2.length d117999_2]] (by rfl) rfl rfl (by simp only [List.map_toArray, List.map_cons, List.map_nil]; rfl) ?_; refine (impl_opener_num_0.calls ht119001.out y117999_2 m117999_2 (hV.lend HS HL) HA).mono ?_; rintro _ wt119001 ⟨rfl, HQ⟩; refine ⟨_, rfl, ?_⟩; replace HS := HB _ _ HQ (Nat.le_of_ble_eq_true rfl); clear HQ HA HB HL HD; (try simp only [hpn, hpm] at HS); (try clear F)
             (try simp only [hpn, hpm] at HS)
             have F := HS.boxes; simp only [boxFacts, and_true] at F
             refine hK.out _ _ ⟨[], HS.arr [some 0, none] (by decide)⟩ (fun HH => ?_)
             clear hK K
             refine norm_ (a' := ?_) ?_ ?_
             rotate_left
             · show Act.put _ (some 52) _ = _; simp only [Act.put, List.setIfInBounds_toArray, List.set_cons_zero, List.set_cons_succ, i64_w, i32_w, c12]; rfl
             refine dr_any [24, 26] HT (by kernel_rfl) (by decide) (AllReadyL.cons rfl (by decide) (fun K hK => ?_) (AllReadyL.cons rfl (by decide) (fun K hK => ?_) AllReadyL.nil))
             · refine HS.lend [1] (by decide) [.box g24 [.bool t119001.2.f0] 86] rfl (fun A' HL HD HA HB => ?_); refine goes_ Tryd.func55 (by kernel_rfl) rfl #[.pointer (some ⟨g24, 0, none⟩), .agg #[.int .i64 ((rd_T65 y26 4).f0), .string ((rd_T65 y26 4).f1), .slice B122999_2 (rd_T65 y26 4).f2.length d122999_2]] (by rfl) rfl rfl (by simp only [List.map_toArray, List.map_cons, List.map_nil]; rfl) ?_; refine (impl_opener_num_0.calls ht124001.out y122999_2 m122999_2 (hV.lend HS HL) HA).mono ?_; rintro _ wt124001 ⟨rfl, HQ⟩; refine ⟨_, rfl, ?_⟩; replace HS := HB _ _ HQ (Nat.le_of_ble_eq_true rfl); clear HQ HA HB HL HD; (try simp only [hpn, hpm] at HS); (try clear F)
               (try simp only [hpn, hpm] at HS)
               have F := HS.boxes; simp only [boxFacts, and_true] at F
               refine hK.out _ _ ⟨[], HS.arr [some 0, none] (by decide)⟩ (fun HH => ?_)
               clear hK K
               refine norm_ (a' := ?_) ?_ ?_
               rotate_left
               · show Act.put _ (some 57) _ = _; simp only [Act.put, List.setIfInBounds_toArray, List.set_cons_zero, List.set_cons_succ, i64_w, i32_w, c12]; rfl
               refine drq_of [(25, some 58)] ?_
               repeat (first | (refine drq_pure HT (v := ?_) (a' := ?_) rfl rfl (by kernel_rfl) (fun _ _ _ h => h) (.inl ⟨by rfl, ?_⟩) ?_ ?_; rotate_left; (intro w'; go_simp; with_reducible rfl); rotate_left; (simp only [Act.put, List.setIfInBounds_toArray, List.set_cons_zero, List.set_cons_succ, i64_w, i32_w]; rfl)))
               refine drq_end ?_
               refine dr_one 26 HT rfl (by kernel_rfl) (by decide) (fun K hK => ?_)
               refine if_wp (by rfl) ?_; refine wp_box HS (by first | (go_simp; done) | (go_simp; rfl)) rfl ?_; clear HS; (try clear F); intro g9 w9 HS
               (try simp only [hpn, hpm] at HS)
               have F := HS.boxes; simp only [boxFacts, and_true] at F
               refine hK.out _ _ ⟨[], HS.arr [some 0, none] (by decide)⟩ (fun HH => ?_)
               clear hK K
               refine norm_ (a' := ?_) ?_ ?_
               rotate_left
               · show Act.put _ (some 9) _ = _; simp only [Act.put, List.setIfInBounds_toArray, List.set_cons_zero, List.set_cons_succ, i64_w, i32_w, c12]; rfl
               refine dr_last 27 HT rfl (by kernel_rfl) (by decide) (fun K hK => ?_)
               refine if_wp (by rfl) ?_; refine wp_store 2 0 HS (seg := [.string t104001.1, .int .i64 t109001.1, .int .i64 t114001.1, .int .i64 t119001.1, .int .i64 t124001.1, .slice none 0 0, .string (⟨#[]⟩ : ByteArray)]) rfl rfl rfl rfl rfl rfl (by kernel_rfl) (by simp [wrt]) (by simp [Value.oneCell']) ?_; clear HS; (try clear F); intro w127001 HS
               (try simp only [hpn, hpm] at HS)
               have F := HS.boxes; simp only [boxFacts, and_true] at F
               refine hK.out _ _ ?_
               clear hK K
               refine norm_ ?_ (hJ (g9, .pointer (some ad102999), .agg #[.int .i64 ((rd_T65 y26 0).f0), .string ((rd_T65 y26 0).f1), .slice B102999_2 (rd_T65 y26 0).f2.length d102999_2], .pointer (some (ad102999.add 3)), .agg #[.int .i64 ((rd_T65 y26 1).f0), .string ((rd_T65 y26 1).f1), .slice B107999_2 (rd_T65 y26 1).f2.length d107999_2], .pointer (some (ad102999.add 6)), .agg #[.int .i64 ((rd_T65 y26 2).f0), .string ((rd_T65 y26 2).f1), .slice B112999_2 (rd_T65 y26 2).f2.length d112999_2], .pointer (some (ad102999.add 9)), .agg #[.int .i64 ((rd_T65 y26 3).f0), .string ((rd_T65 y26 3).f1), .slice B117999_2 (rd_T65 y26 3).f2.length d117999_2], .pointer (some (ad102999.add 12)), .agg #[.int .i64 ((rd_T65 y26 4).f0), .string ((rd_T65 y26 4).f1), .slice B122999_2 (rd_T65 y26 4).f2.length d122999_2]) _ (HS.arr [some 0, some 1, some 2] (by decide)))
               simp only [putAll, Act.put, List.setIfInBounds_toArray, List.set_cons_zero, List.set_cons_succ, i64_w, i32_w, c12]
               (try rfl)
             · refine if_wp (by rfl) ?_; refine wp_box HS (by first | (go_simp; done) | (go_simp; rfl)) rfl ?_; clear HS; (try clear F); intro g9 w9 HS
               (try simp only [hpn, hpm] at HS)
               have F := HS.boxes; simp only [boxFacts, and_true] at F
               refine hK.out _ _ ⟨[], HS.arr [some 0, none] (by decide)⟩ (fun HH => ?_)
               clear hK K
               refine norm_ (a' := ?_) ?_ ?_
               rotate_left
               · show Act.put _ (some 9) _ = _; simp only [Act.put, List.setIfInBounds_toArray, List.set_cons_zero, List.set_cons_succ, i64_w, i32_w, c12]; rfl
               refine dr_one 24 HT rfl (by kernel_rfl) (by decide) (fun K hK => ?_)
               refine HS.lend [1] (by decide) [.box g24 [.bool t119001.2.f0] 86] rfl (fun A' HL HD HA HB => ?_); refine goes_ Tryd.func55 (by kernel_rfl) rfl #[.pointer (some ⟨g24, 0, none⟩), .agg #[.int .i64 ((rd_T65 y26 4).f0), .string ((rd_T65 y26 4).f1), .slice B122999_2 (rd_T65 y26 4).f2.length d122999_2]] (by rfl) rfl rfl (by simp only [List.map_toArray, List.map_cons, List.map_nil]; rfl) ?_; refine (impl_opener_num_0.calls ht124001.out y122999_2 m122999_2 (hV.lend HS HL) HA).mono ?_; rintro _ wt124001 ⟨rfl, HQ⟩; refine ⟨_, rfl, ?_⟩; replace HS := HB _ _ HQ (Nat.le_of_ble_eq_true rfl); clear HQ HA HB HL HD; (try simp only [hpn, hpm] at HS); (try clear F)
               (try simp only [hpn, hpm] at HS)
               have F := HS.boxes; simp only [boxFacts, and_true] at F
               refine hK.out _ _ ⟨[], HS.arr [some 0, none] (by decide)⟩ (fun HH => ?_)
               clear hK K
               refine norm_ (a' := ?_) ?_ ?_
               rotate_left
               · show Act.put _ (some 57) _ = _; simp only [Act.put, List.setIfInBounds_toArray, List.set_cons_zero, List.set_cons_succ, i64_w, i32_w, c12]; rfl
               refine drq_of [(25, some 58)] ?_
               repeat (first | (refine drq_pure HT (v := ?_) (a' := ?_) rfl rfl (by kernel_rfl) (fun _ _ _ h => h) (.inl ⟨by rfl, ?_⟩) ?_ ?_; rotate_left; (intro w'; go_simp; with_reducible rfl); rotate_left; (simp only [Act.put, List.setIfInBounds_toArray, List.set_cons_zero, List.set_cons_succ, i64_w, i32_w]; rfl)))
               refine drq_end ?_
               refine dr_last 27 HT rfl (by kernel_rfl) (by decide) (fun K hK => ?_)
               refine if_wp (by rfl) ?_; refine wp_store 2 0 HS (seg := [.string t104001.1, .int .i64 t109001.1, .int .i64 t114001.1, .int .i64 t119001.1, .int .i64 t124001.1, .slice none 0 0, .string (⟨#[]⟩ : ByteArray)]) rfl rfl rfl rfl rfl rfl (by kernel_rfl) (by simp [wrt]) (by simp [Value.oneCell']) ?_; clear HS; (try clear F); intro w127001 HS
               (try simp only [hpn, hpm] at HS)
               have F := HS.boxes; simp only [boxFacts, and_true] at F
               refine hK.out _ _ ?_
               clear hK K
               refine norm_ ?_ (hJ (g9, .pointer (some ad102999), .agg #[.int .i64 ((rd_T65 y26 0).f0), .string ((rd_T65 y26 0).f1), .slice B102999_2 (rd_T65 y26 0).f2.length d102999_2], .pointer (some (ad102999.add 3)), .agg #[.int .i64 ((rd_T65 y26 1).f0), .string ((rd_T65 y26 1).f1), .slice B107999_2 (rd_T65 y26 1).f2.length d107999_2], .pointer (some (ad102999.add 6)), .agg #[.int .i64 ((rd_T65 y26 2).f0), .string ((rd_T65 y26 2).f1), .slice B112999_2 (rd_T65 y26 2).f2.length d112999_2], .pointer (some (ad102999.add 9)), .agg #[.int .i64 ((rd_T65 y26 3).f0), .string ((rd_T65 y26 3).f1), .slice B117999_2 (rd_T65 y26 3).f2.length d117999_2], .pointer (some (ad102999.add 12)), .agg #[.int .i64 ((rd_T65 y26 4).f0), .string ((rd_T65 y26 4).f1), .slice B122999_2 (rd_T65 y26 4).f2.length d122999_2]) _ (HS.arr [some 0, some 1, some 2] (by decide)))
               simp only [putAll, Act.put, List.setIfInBounds_toArray, List.set_cons_zero, List.set_cons_succ, i64_w, i32_w, c12]
               (try rfl)
           · refine if_wp (by rfl) ?_; refine wp_box HS (by first | (go_simp; done) | (go_simp; rfl)) rfl ?_; clear HS; (try clear F); intro g9 w9 HS
             (try simp only [hpn, hpm] at HS)
             have F := HS.boxes; simp only [boxFacts, and_true] at F
             refine hK.out _ _ ⟨[], HS.arr [some 0, none] (by decide)⟩ (fun HH => ?_)
             clear hK K
             refine norm_ (a' := ?_) ?_ ?_
             rotate_left
             · show Act.put _ (some 9) _ = _; simp only [Act.put, List.setIfInBounds_toArray, List.set_cons_zero, List.set_cons_succ, i64_w, i32_w, c12]; rfl
             refine dr_one 19 HT rfl (by kernel_rfl) (by decide) (fun K hK => ?_)
             refine HS.lend [1] (by decide) [.box g24 [.bool t114001.2.f0] 86] rfl (fun A' HL HD HA HB => ?_); refine goes_ Tryd.func55 (by kernel_rfl) rfl #[.pointer (some ⟨g24, 0, none⟩), .agg #[.int .i64 ((rd_T65 y26 3).f0), .string ((rd_T65 y26 3).f1), .slice B117999_2 (rd_T65 y26 3).f2.length d117999_2]] (by rfl) rfl rfl (by simp only [List.map_toArray, List.map_cons, List.map_nil]; rfl) ?_; refine (impl_opener_num_0.calls ht119001.out y117999_2 m117999_2 (hV.lend HS HL) HA).mono ?_; rintro _ wt119001 ⟨rfl, HQ⟩; refine ⟨_, rfl, ?_⟩; replace HS := HB _ _ HQ (Nat.le_of_ble_eq_true rfl); clear HQ HA HB HL HD; (try simp only [hpn, hpm] at HS); (try clear F)
             (try simp only [hpn, hpm] at HS)
             have F := HS.boxes; simp only [boxFacts, and_true] at F
             refine hK.out _ _ ⟨[], HS.arr [some 0, none] (by decide)⟩ (fun HH => ?_)
             clear hK K
             refine norm_ (a' := ?_) ?_ ?_
             rotate_left
             · show Act.put _ (some 52) _ = _; simp only [Act.put, List.setIfInBounds_toArray, List.set_cons_zero, List.set_cons_succ, i64_w, i32_w, c12]; rfl
             refine dr_one 24 HT rfl (by kernel_rfl) (by decide) (fun K hK => ?_)
             refine HS.lend [1] (by decide) [.box g24 [.bool t119001.2.f0] 86] rfl (fun A' HL HD HA HB => ?_); refine goes_ Tryd.func55 (by kernel_rfl) rfl #[.pointer (some ⟨g24, 0, none⟩), .agg #[.int .i64 ((rd_T65 y26 4).f0), .string ((rd_T65 y26 4).f1), .slice B122999_2 (rd_T65 y26 4).f2.length d122999_2]] (by rfl) rfl rfl (by simp only [List.map_toArray, List.map_cons, List.map_nil]; rfl) ?_; refine (impl_opener_num_0.calls ht124001.out y122999_2 m122999_2 (hV.lend HS HL) HA).mono ?_; rintro _ wt124001 ⟨rfl, HQ⟩; refine ⟨_, rfl, ?_⟩; replace HS := HB _ _ HQ (Nat.le_of_ble_eq_true rfl); clear HQ HA HB HL HD; (try simp only [hpn, hpm] at HS); (try clear F)
             (try simp only [hpn, hpm] at HS)
             have F := HS.boxes; simp only [boxFacts, and_true] at F
             refine hK.out _ _ ⟨[], HS.arr [some 0, none] (by decide)⟩ (fun HH => ?_)
             clear hK K
             refine norm_ (a' := ?_) ?_ ?_
             rotate_left
             · show Act.put _ (some 57) _ = _; simp only [Act.put, List.setIfInBounds_toArray, List.set_cons_zero, List.set_cons_succ, i64_w, i32_w, c12]; rfl
             refine drq_of [(25, some 58)] ?_
             repeat (first | (refine drq_pure HT (v := ?_) (a' := ?_) rfl rfl (by kernel_rfl) (fun _ _ _ h => h) (.inl ⟨by rfl, ?_⟩) ?_ ?_; rotate_left; (intro w'; go_simp; with_reducible rfl); rotate_left; (simp only [Act.put, List.setIfInBounds_toArray, List.set_cons_zero, List.set_cons_succ, i64_w, i32_w]; rfl)))
             refine drq_end ?_
             refine dr_last 27 HT rfl (by kernel_rfl) (by decide) (fun K hK => ?_)
             refine if_wp (by rfl) ?_; refine wp_store 2 0 HS (seg := [.string t104001.1, .int .i64 t109001.1, .int .i64 t114001.1, .int .i64 t119001.1, .int .i64 t124001.1, .slice none 0 0, .string (⟨#[]⟩ : ByteArray)]) rfl rfl rfl rfl rfl rfl (by kernel_rfl) (by simp [wrt]) (by simp [Value.oneCell']) ?_; clear HS; (try clear F); intro w127001 HS
             (try simp only [hpn, hpm] at HS)
             have F := HS.boxes; simp only [boxFacts, and_true] at F
             refine hK.out _ _ ?_
             clear hK K
             refine norm_ ?_ (hJ (g9, .pointer (some ad102999), .agg #[.int .i64 ((rd_T65 y26 0).f0), .string ((rd_T65 y26 0).f1), .slice B102999_2 (rd_T65 y26 0).f2.length d102999_2], .pointer (some (ad102999.add 3)), .agg #[.int .i64 ((rd_T65 y26 1).f0), .string ((rd_T65 y26 1).f1), .slice B107999_2 (rd_T65 y26 1).f2.length d107999_2], .pointer (some (ad102999.add 6)), .agg #[.int .i64 ((rd_T65 y26 2).f0), .string ((rd_T65 y26 2).f1), .slice B112999_2 (rd_T65 y26 2).f2.length d112999_2], .pointer (some (ad102999.add 9)), .agg #[.int .i64 ((rd_T65 y26 3).f0), .string ((rd_T65 y26 3).f1), .slice B117999_2 (rd_T65 y26 3).f2.length d117999_2], .pointer (some (ad102999.add 12)), .agg #[.int .i64 ((rd_T65 y26 4).f0), .string ((rd_T65 y26 4).f1), .slice B122999_2 (rd_T65 y26 4).f2.length d122999_2]) _ (HS.arr [some 0, some 1, some 2] (by decide)))
             simp only [putAll, Act.put, List.setIfInBounds_toArray, List.set_cons_zero, List.set_cons_succ, i64_w, i32_w, c12]
             (try rfl)
         · refine if_wp (by rfl) ?_; refine wp_box HS (by first | (go_simp; done) | (go_simp; rfl)) rfl ?_; clear HS; (try clear F); intro g9 w9 HS
           (try simp only [hpn, hpm] at HS)
           have F := HS.boxes; simp only [boxFacts, and_true] at F
           refine hK.out _ _ ⟨[], HS.arr [some 0, none] (by decide)⟩ (fun HH => ?_)
           clear hK K
           refine norm_ (a' := ?_) ?_ ?_
           rotate_left
           · show Act.put _ (some 9) _ = _; simp only [Act.put, List.setIfInBounds_toArray, List.set_cons_zero, List.set_cons_succ, i64_w, i32_w, c12]; rfl
           refine dr_one 14 HT rfl (by kernel_rfl) (by decide) (fun K hK => ?_)
           refine HS.lend [1] (by decide) [.box g24 [.bool t109001.2.f0] 86] rfl (fun A' HL HD HA HB => ?_); refine goes_ Tryd.func55 (by kernel_rfl) rfl #[.pointer (some ⟨g24, 0, none⟩), .agg #[.int .i64 ((rd_T65 y26 2).f0), .string ((rd_T65 y26 2).f1), .slice B112999_2 (rd_T65 y26 2).f2.length d112999_2]] (by rfl) rfl rfl (by simp only [List.map_toArray, List.map_cons, List.map_nil]; rfl) ?_; refine (impl_opener_num_0.calls ht114001.out y112999_2 m112999_2 (hV.lend HS HL) HA).mono ?_; rintro _ wt114001 ⟨rfl, HQ⟩; refine ⟨_, rfl, ?_⟩; replace HS := HB _ _ HQ (Nat.le_of_ble_eq_true rfl); clear HQ HA HB HL HD; (try simp only [hpn, hpm] at HS); (try clear F)
           (try simp only [hpn, hpm] at HS)
           have F := HS.boxes; simp only [boxFacts, and_true] at F
           refine hK.out _ _ ⟨[], HS.arr [some 0, none] (by decide)⟩ (fun HH => ?_)
           clear hK K
           refine norm_ (a' := ?_) ?_ ?_
           rotate_left
           · show Act.put _ (some 47) _ = _; simp only [Act.put, List.setIfInBounds_toArray, List.set_cons_zero, List.set_cons_succ, i64_w, i32_w, c12]; rfl
           refine dr_one 19 HT rfl (by kernel_rfl) (by decide) (fun K hK => ?_)
           refine HS.lend [1] (by decide) [.box g24 [.bool t114001.2.f0] 86] rfl (fun A' HL HD HA HB => ?_); refine goes_ Tryd.func55 (by kernel_rfl) rfl #[.pointer (some ⟨g24, 0, none⟩), .agg #[.int .i64 ((rd_T65 y26 3).f0), .string ((rd_T65 y26 3).f1), .slice B117999_2 (rd_T65 y26 3).f2.length d117999_2]] (by rfl) rfl rfl (by simp only [List.map_toArray, List.map_cons, List.map_nil]; rfl) ?_; refine (impl_opener_num_0.calls ht119001.out y117999_2 m117999_2 (hV.lend HS HL) HA).mono ?_; rintro _ wt119001 ⟨rfl, HQ⟩; refine ⟨_, rfl, ?_⟩; replace HS := HB _ _ HQ (Nat.le_of_ble_eq_true rfl); clear HQ HA HB HL HD; (try simp only [hpn, hpm] at HS); (try clear F)
           (try simp only [hpn, hpm] at HS)
           have F := HS.boxes; simp only [boxFacts, and_true] at F
           refine hK.out _ _ ⟨[], HS.arr [some 0, none] (by decide)⟩ (fun HH => ?_)
           clear hK K
           refine norm_ (a' := ?_) ?_ ?_
           rotate_left
           · show Act.put _ (some 52) _ = _; simp only [Act.put, List.setIfInBounds_toArray, List.set_cons_zero, List.set_cons_succ, i64_w, i32_w, c12]; rfl
           refine dr_one 24 HT rfl (by kernel_rfl) (by decide) (fun K hK => ?_)
           refine HS.lend [1] (by decide) [.box g24 [.bool t119001.2.f0] 86] rfl (fun A' HL HD HA HB => ?_); refine goes_ Tryd.func55 (by kernel_rfl) rfl #[.pointer (some ⟨g24, 0, none⟩), .agg #[.int .i64 ((rd_T65 y26 4).f0), .string ((rd_T65 y26 4).f1), .slice B122999_2 (rd_T65 y26 4).f2.length d122999_2]] (by rfl) rfl rfl (by simp only [List.map_toArray, List.map_cons, List.map_nil]; rfl) ?_; refine (impl_opener_num_0.calls ht124001.out y122999_2 m122999_2 (hV.lend HS HL) HA).mono ?_; rintro _ wt124001 ⟨rfl, HQ⟩; refine ⟨_, rfl, ?_⟩; replace HS := HB _ _ HQ (Nat.le_of_ble_eq_true rfl); clear HQ HA HB HL HD; (try simp only [hpn, hpm] at HS); (try clear F)
           (try simp only [hpn, hpm] at HS)
           have F := HS.boxes; simp only [boxFacts, and_true] at F
           refine hK.out _ _ ⟨[], HS.arr [some 0, none] (by decide)⟩ (fun HH => ?_)
           clear hK K
           refine norm_ (a' := ?_) ?_ ?_
           rotate_left
           · show Act.put _ (some 57) _ = _; simp only [Act.put, List.setIfInBounds_toArray, List.set_cons_zero, List.set_cons_succ, i64_w, i32_w, c12]; rfl
           refine drq_of [(25, some 58)] ?_
           repeat (first | (refine drq_pure HT (v := ?_) (a' := ?_) rfl rfl (by kernel_rfl) (fun _ _ _ h => h) (.inl ⟨by rfl, ?_⟩) ?_ ?_; rotate_left; (intro w'; go_simp; with_reducible rfl); rotate_left; (simp only [Act.put, List.setIfInBounds_toArray, List.set_cons_zero, List.set_cons_succ, i64_w, i32_w]; rfl)))
           refine drq_end ?_
           refine dr_last 27 HT rfl (by kernel_rfl) (by decide) (fun K hK => ?_)
           refine if_wp (by rfl) ?_; refine wp_store 2 0 HS (seg := [.string t104001.1, .int .i64 t109001.1, .int .i64 t114001.1, .int .i64 t119001.1, .int .i64 t124001.1, .slice none 0 0, .string (⟨#[]⟩ : ByteArray)]) rfl rfl rfl rfl rfl rfl (by kernel_rfl) (by simp [wrt]) (by simp [Value.oneCell']) ?_; clear HS; (try clear F); intro w127001 HS
           (try simp only [hpn, hpm] at HS)
           have F := HS.boxes; simp only [boxFacts, and_true] at F
           refine hK.out _ _ ?_
           clear hK K
           refine norm_ ?_ (hJ (g9, .pointer (some ad102999), .agg #[.int .i64 ((rd_T65 y26 0).f0), .string ((rd_T65 y26 0).f1), .slice B102999_2 (rd_T65 y26 0).f2.length d102999_2], .pointer (some (ad102999.add 3)), .agg #[.int .i64 ((rd_T65 y26 1).f0), .string ((rd_T65 y26 1).f1), .slice B107999_2 (rd_T65 y26 1).f2.length d107999_2], .pointer (some (ad102999.add 6)), .agg #[.int .i64 ((rd_T65 y26 2).f0), .string ((rd_T65 y26 2).f1), .slice B112999_2 (rd_T65 y26 2).f2.length d112999_2], .pointer (some (ad102999.add 9)), .agg #[.int .i64 ((rd_T65 y26 3).f0), .string ((rd_T65 y26 3).f1), .slice B117999_2 (rd_T65 y26 3).f2.length d117999_2], .pointer (some (ad102999.add 12)), .agg #[.int .i64 ((rd_T65 y26 4).f0), .string ((rd_T65 y26 4).f1), .slice B122999_2 (rd_T65 y26 4).f2.length d122999_2]) _ (HS.arr [some 0, some 1, some 2] (by decide)))
           simp only [putAll, Act.put, List.setIfInBounds_toArray, List.set_cons_zero, List.set_cons_succ, i64_w, i32_w, c12]
           (try rfl)
       · refine if_wp (by rfl) ?_; refine wp_box HS (by first | (go_simp; done) | (go_simp; rfl)) rfl ?_; clear HS; (try clear F); intro g9 w9 HS
         (try simp only [hpn, hpm] at HS)
         have F := HS.boxes; simp only [boxFacts, and_true] at F
         refine hK.out _ _ ⟨[], HS.arr [some 0, none] (by decide)⟩ (fun HH => ?_)
         clear hK K
         refine norm_ (a' := ?_) ?_ ?_
         rotate_left
         · show Act.put _ (some 9) _ = _; simp only [Act.put, List.setIfInBounds_toArray, List.set_cons_zero, List.set_cons_succ, i64_w, i32_w, c12]; rfl
         refine dr_one 9 HT rfl (by kernel_rfl) (by decide) (fun K hK => ?_)
         refine HS.lend [1] (by decide) [.box g24 [.bool t104001.2.f0] 86] rfl (fun A' HL HD HA HB => ?_); refine goes_ Tryd.func55 (by kernel_rfl) rfl #[.pointer (some ⟨g24, 0, none⟩), .agg #[.int .i64 ((rd_T65 y26 1).f0), .string ((rd_T65 y26 1).f1), .slice B107999_2 (rd_T65 y26 1).f2.length d107999_2]] (by rfl) rfl rfl (by simp only [List.map_toArray, List.map_cons, List.map_nil]; rfl) ?_; refine (impl_opener_num_0.calls ht109001.out y107999_2 m107999_2 (hV.lend HS HL) HA).mono ?_; rintro _ wt109001 ⟨rfl, HQ⟩; refine ⟨_, rfl, ?_⟩; replace HS := HB _ _ HQ (Nat.le_of_ble_eq_true rfl); clear HQ HA HB HL HD; (try simp only [hpn, hpm] at HS); (try clear F)
         (try simp only [hpn, hpm] at HS)
         have F := HS.boxes; simp only [boxFacts, and_true] at F
         refine hK.out _ _ ⟨[], HS.arr [some 0, none] (by decide)⟩ (fun HH => ?_)
         clear hK K
         refine norm_ (a' := ?_) ?_ ?_
         rotate_left
         · show Act.put _ (some 42) _ = _; simp only [Act.put, List.setIfInBounds_toArray, List.set_cons_zero, List.set_cons_succ, i64_w, i32_w, c12]; rfl
         refine dr_one 14 HT rfl (by kernel_rfl) (by decide) (fun K hK => ?_)
         refine HS.lend [1] (by decide) [.box g24 [.bool t109001.2.f0] 86] rfl (fun A' HL HD HA HB => ?_); refine goes_ Tryd.func55 (by kernel_rfl) rfl #[.pointer (some ⟨g24, 0, none⟩), .agg #[.int .i64 ((rd_T65 y26 2).f0), .string ((rd_T65 y26 2).f1), .slice B112999_2 (rd_T65 y26 2).f2.length d112999_2]] (by rfl) rfl rfl (by simp only [List.map_toArray, List.map_cons, List.map_nil]; rfl) ?_; refine (impl_opener_num_0.calls ht114001.out y112999_2 m112999_2 (hV.lend HS HL) HA).mono ?_; rintro _ wt114001 ⟨rfl, HQ⟩; refine ⟨_, rfl, ?_⟩; replace HS := HB _ _ HQ (Nat.le_of_ble_eq_true rfl); clear HQ HA HB HL HD; (try simp only [hpn, hpm] at HS); (try clear F)
         (try simp only [hpn, hpm] at HS)
         have F := HS.boxes; simp only [boxFacts, and_true] at F
         refine hK.out _ _ ⟨[], HS.arr [some 0, none] (by decide)⟩ (fun HH => ?_)
         clear hK K
         refine norm_ (a' := ?_) ?_ ?_
         rotate_left
         · show Act.put _ (some 47) _ = _; simp only [Act.put, List.setIfInBounds_toArray, List.set_cons_zero, List.set_cons_succ, i64_w, i32_w, c12]; rfl
         refine dr_one 19 HT rfl (by kernel_rfl) (by decide) (fun K hK => ?_)
         refine HS.lend [1] (by decide) [.box g24 [.bool t114001.2.f0] 86] rfl (fun A' HL HD HA HB => ?_); refine goes_ Tryd.func55 (by kernel_rfl) rfl #[.pointer (some ⟨g24, 0, none⟩), .agg #[.int .i64 ((rd_T65 y26 3).f0), .string ((rd_T65 y26 3).f1), .slice B117999_2 (rd_T65 y26 3).f2.length d117999_2]] (by rfl) rfl rfl (by simp only [List.map_toArray, List.map_cons, List.map_nil]; rfl) ?_; refine (impl_opener_num_0.calls ht119001.out y117999_2 m117999_2 (hV.lend HS HL) HA).mono ?_; rintro _ wt119001 ⟨rfl, HQ⟩; refine ⟨_, rfl, ?_⟩; replace HS := HB _ _ HQ (Nat.le_of_ble_eq_true rfl); clear HQ HA HB HL HD; (try simp only [hpn, hpm] at HS); (try clear F)
         (try simp only [hpn, hpm] at HS)
         have F := HS.boxes; simp only [boxFacts, and_true] at F
         refine hK.out _ _ ⟨[], HS.arr [some 0, none] (by decide)⟩ (fun HH => ?_)
         clear hK K
         refine norm_ (a' := ?_) ?_ ?_
         rotate_left
         · show Act.put _ (some 52) _ = _; simp only [Act.put, List.setIfInBounds_toArray, List.set_cons_zero, List.set_cons_succ, i64_w, i32_w, c12]; rfl
         refine dr_one 24 HT rfl (by kernel_rfl) (by decide) (fun K hK => ?_)
         refine HS.lend [1] (by decide) [.box g24 [.bool t119001.2.f0] 86] rfl (fun A' HL HD HA HB => ?_); refine goes_ Tryd.func55 (by kernel_rfl) rfl #[.pointer (some ⟨g24, 0, none⟩), .agg #[.int .i64 ((rd_T65 y26 4).f0), .string ((rd_T65 y26 4).f1), .slice B122999_2 (rd_T65 y26 4).f2.length d122999_2]] (by rfl) rfl rfl (by simp only [List.map_toArray, List.map_cons, List.map_nil]; rfl) ?_; refine (impl_opener_num_0.calls ht124001.out y122999_2 m122999_2 (hV.lend HS HL) HA).mono ?_; rintro _ wt124001 ⟨rfl, HQ⟩; refine ⟨_, rfl, ?_⟩; replace HS := HB _ _ HQ (Nat.le_of_ble_eq_true rfl); clear HQ HA HB HL HD; (try simp only [hpn, hpm] at HS); (try clear F)
         (try simp only [hpn, hpm] at HS)
         have F := HS.boxes; simp only [boxFacts, and_true] at F
         refine hK.out _ _ ⟨[], HS.arr [some 0, none] (by decide)⟩ (fun HH => ?_)
         clear hK K
         refine norm_ (a' := ?_) ?_ ?_
         rotate_left
         · show Act.put _ (some 57) _ = _; simp only [Act.put, List.setIfInBounds_toArray, List.set_cons_zero, List.set_cons_succ, i64_w, i32_w, c12]; rfl
         refine drq_of [(25, some 58)] ?_
         repeat (first | (refine drq_pure HT (v := ?_) (a' := ?_) rfl rfl (by kernel_rfl) (fun _ _ _ h => h) (.inl ⟨by rfl, ?_⟩) ?_ ?_; rotate_left; (intro w'; go_simp; with_reducible rfl); rotate_left; (simp only [Act.put, List.setIfInBounds_toArray, List.set_cons_zero, List.set_cons_succ, i64_w, i32_w]; rfl)))
         refine drq_end ?_
         refine dr_last 27 HT rfl (by kernel_rfl) (by decide) (fun K hK => ?_)
         refine if_wp (by rfl) ?_; refine wp_store 2 0 HS (seg := [.string t104001.1, .int .i64 t109001.1, .int .i64 t114001.1, .int .i64 t119001.1, .int .i64 t124001.1, .slice none 0 0, .string (⟨#[]⟩ : ByteArray)]) rfl rfl rfl rfl rfl rfl (by kernel_rfl) (by simp [wrt]) (by simp [Value.oneCell']) ?_; clear HS; (try clear F); intro w127001 HS
         (try simp only [hpn, hpm] at HS)
         have F := HS.boxes; simp only [boxFacts, and_true] at F
         refine hK.out _ _ ?_
         clear hK K
         refine norm_ ?_ (hJ (g9, .pointer (some ad102999), .agg #[.int .i64 ((rd_T65 y26 0).f0), .string ((rd_T65 y26 0).f1), .slice B102999_2 (rd_T65 y26 0).f2.length d102999_2], .pointer (some (ad102999.add 3)), .agg #[.int .i64 ((rd_T65 y26 1).f0), .string ((rd_T65 y26 1).f1), .slice B107999_2 (rd_T65 y26 1).f2.length d107999_2], .pointer (some (ad102999.add 6)), .agg #[.int .i64 ((rd_T65 y26 2).f0), .string ((rd_T65 y26 2).f1), .slice B112999_2 (rd_T65 y26 2).f2.length d112999_2], .pointer (some (ad102999.add 9)), .agg #[.int .i64 ((rd_T65 y26 3).f0), .string ((rd_T65 y26 3).f1), .slice B117999_2 (rd_T65 y26 3).f2.length d117999_2], .pointer (some (ad102999.add 12)), .agg #[.int .i64 ((rd_T65 y26 4).f0), .string ((rd_T65 y26 4).f1), .slice B122999_2 (rd_T65 y26 4).f2.length d122999_2]) _ (HS.arr [some 0, some 1, some 2] (by decide)))
         simp only [putAll, Act.put, List.setIfInBounds_toArray, List.set_cons_zero, List.set_cons_succ, i64_w, i32_w, c12]
         (try rfl)
     · refine if_wp (by rfl) ?_; refine wp_box HS (by first | (go_simp; done) | (go_simp; rfl)) rfl ?_; clear HS; (try clear F); intro g9 w9 HS
       (try simp only [hpn, hpm] at HS)
       have F := HS.boxes; simp only [boxFacts, and_true] at F
       refine hK.out _ _ ⟨[], HS.arr [some 0, none] (by decide)⟩ (fun HH => ?_)
       clear hK K
       refine norm_ (a' := ?_) ?_ ?_
       rotate_left
       · show Act.put _ (some 9) _ = _; simp only [Act.put, List.setIfInBounds_toArray, List.set_cons_zero, List.set_cons_succ, i64_w, i32_w, c12]; rfl
       refine dr_one 4 HT rfl (by kernel_rfl) (by decide) (fun K hK => ?_)
       refine HS.lend [1] (by decide) [.box g24 [.bool t23.2.f0] 86] rfl (fun A' HL HD HA HB => ?_); refine goes_ Tryd.func54 (by kernel_rfl) rfl #[.pointer (some ⟨g24, 0, none⟩), .agg #[.int .i64 ((rd_T65 y26 0).f0), .string ((rd_T65 y26 0).f1), .slice B102999_2 (rd_T65 y26 0).f2.length d102999_2], .int .i64 12] (by rfl) rfl rfl (by simp only [List.map_toArray, List.map_cons, List.map_nil]; rfl) ?_; refine (impl_opener_text_0.calls ht104001.out y102999_2 m102999_2 (hV.lend HS HL) HA).mono ?_; rintro _ wt104001 ⟨rfl, HQ⟩; refine ⟨_, rfl, ?_⟩; replace HS := HB _ _ HQ (Nat.le_of_ble_eq_true rfl); clear HQ HA HB HL HD; (try simp only [hpn, hpm] at HS); (try clear F)
       (try simp only [hpn, hpm] at HS)
       have F := HS.boxes; simp only [boxFacts, and_true] at F
       refine hK.out _ _ ⟨[], HS.arr [some 0, none] (by decide)⟩ (fun HH => ?_)
       clear hK K
       refine norm_ (a' := ?_) ?_ ?_
       rotate_left
       · show Act.put _ (some 37) _ = _; simp only [Act.put, List.setIfInBounds_toArray, List.set_cons_zero, List.set_cons_succ, i64_w, i32_w, c12]; rfl
       refine dr_one 9 HT rfl (by kernel_rfl) (by decide) (fun K hK => ?_)
       refine HS.lend [1] (by decide) [.box g24 [.bool t104001.2.f0] 86] rfl (fun A' HL HD HA HB => ?_); refine goes_ Tryd.func55 (by kernel_rfl) rfl #[.pointer (some ⟨g24, 0, none⟩), .agg #[.int .i64 ((rd_T65 y26 1).f0), .string ((rd_T65 y26 1).f1), .slice B107999_2 (rd_T65 y26 1).f2.length d107999_2]] (by rfl) rfl rfl (by simp only [List.map_toArray, List.map_cons, List.map_nil]; rfl) ?_; refine (impl_opener_num_0.calls ht109001.out y107999_2 m107999_2 (hV.lend HS HL) HA).mono ?_; rintro _ wt109001 ⟨rfl, HQ⟩; refine ⟨_, rfl, ?_⟩; replace HS := HB _ _ HQ (Nat.le_of_ble_eq_true rfl); clear HQ HA HB HL HD; (try simp only [hpn, hpm] at HS); (try clear F)
       (try simp only [hpn, hpm] at HS)
       have F := HS.boxes; simp only [boxFacts, and_true] at F
       refine hK.out _ _ ⟨[], HS.arr [some 0, none] (by decide)⟩ (fun HH => ?_)
       clear hK K
       refine norm_ (a' := ?_) ?_ ?_
       rotate_left
       · show Act.put _ (some 42) _ = _; simp only [Act.put, List.setIfInBounds_toArray, List.set_cons_zero, List.set_cons_succ, i64_w, i32_w, c12]; rfl
       refine dr_one 14 HT rfl (by kernel_rfl) (by decide) (fun K hK => ?_)
       refine HS.lend [1] (by decide) [.box g24 [.bool t109001.2.f0] 86] rfl (fun A' HL HD HA HB => ?_); refine goes_ Tryd.func55 (by kernel_rfl) rfl #[.pointer (some ⟨g24, 0, none⟩), .agg #[.int .i64 ((rd_T65 y26 2).f0), .string ((rd_T65 y26 2).f1), .slice B112999_2 (rd_T65 y26 2).f2.length d112999_2]] (by rfl) rfl rfl (by simp only [List.map_toArray, List.map_cons, List.map_nil]; rfl) ?_; refine (impl_opener_num_0.calls ht114001.out y112999_2 m112999_2 (hV.lend HS HL) HA).mono ?_; rintro _ wt114001 ⟨rfl, HQ⟩; refine ⟨_, rfl, ?_⟩; replace HS := HB _ _ HQ (Nat.le_of_ble_eq_true rfl); clear HQ HA HB HL HD; (try simp only [hpn, hpm] at HS); (try clear F)
       (try simp only [hpn, hpm] at HS)
       have F := HS.boxes; simp only [boxFacts, and_true] at F
       refine hK.out _ _ ⟨[], HS.arr [some 0, none] (by decide)⟩ (fun HH => ?_)
       clear hK K
       refine norm_ (a' := ?_) ?_ ?_
       rotate_left
       · show Act.put _ (some 47) _ = _; simp only [Act.put, List.setIfInBounds_toArray, List.set_cons_zero, List.set_cons_succ, i64_w, i32_w, c12]; rfl
       refine dr_one 19 HT rfl (by kernel_rfl) (by decide) (fun K hK => ?_)
       refine HS.lend [1] (by decide) [.box g24 [.bool t114001.2.f0] 86] rfl (fun A' HL HD HA HB => ?_); refine goes_ Tryd.func55 (by kernel_rfl) rfl #[.pointer (some ⟨g24, 0, none⟩), .agg #[.int .i64 ((rd_T65 y26 3).f0), .string ((rd_T65 y26 3).f1), .slice B117999_2 (rd_T65 y26 3).f2.length d117999_2]] (by rfl) rfl rfl (by simp only [List.map_toArray, List.map_cons, List.map_nil]; rfl) ?_; refine (impl_opener_num_0.calls ht119001.out y117999_2 m117999_2 (hV.lend HS HL) HA).mono ?_; rintro _ wt119001 ⟨rfl, HQ⟩; refine ⟨_, rfl, ?_⟩; replace HS := HB _ _ HQ (Nat.le_of_ble_eq_true rfl); clear HQ HA HB HL HD; (try simp only [hpn, hpm] at HS); (try clear F)
       (try simp only [hpn, hpm] at HS)
       have F := HS.boxes; simp only [boxFacts, and_true] at F
       refine hK.out _ _ ⟨[], HS.arr [some 0, none] (by decide)⟩ (fun HH => ?_)
       clear hK K
       refine norm_ (a' := ?_) ?_ ?_
       rotate_left
       · show Act.put _ (some 52) _ = _; simp only [Act.put, List.setIfInBounds_toArray, List.set_cons_zero, List.set_cons_succ, i64_w, i32_w, c12]; rfl
       refine dr_one 24 HT rfl (by kernel_rfl) (by decide) (fun K hK => ?_)
       refine HS.lend [1] (by decide) [.box g24 [.bool t119001.2.f0] 86] rfl (fun A' HL HD HA HB => ?_); refine goes_ Tryd.func55 (by kernel_rfl) rfl #[.pointer (some ⟨g24, 0, none⟩), .agg #[.int .i64 ((rd_T65 y26 4).f0), .string ((rd_T65 y26 4).f1), .slice B122999_2 (rd_T65 y26 4).f2.length d122999_2]] (by rfl) rfl rfl (by simp only [List.map_toArray, List.map_cons, List.map_nil]; rfl) ?_; refine (impl_opener_num_0.calls ht124001.out y122999_2 m122999_2 (hV.lend HS HL) HA).mono ?_; rintro _ wt124001 ⟨rfl, HQ⟩; refine ⟨_, rfl, ?_⟩; replace HS := HB _ _ HQ (Nat.le_of_ble_eq_true rfl); clear HQ HA HB HL HD; (try simp only [hpn, hpm] at HS); (try clear F)
       (try simp only [hpn, hpm] at HS)
       have F := HS.boxes; simp only [boxFacts, and_true] at F
       refine hK.out _ _ ⟨[], HS.arr [some 0, none] (by decide)⟩ (fun HH => ?_)
       clear hK K
       refine norm_ (a' := ?_) ?_ ?_
       rotate_left
       · show Act.put _ (some 57) _ = _; simp only [Act.put, List.setIfInBounds_toArray, List.set_cons_zero, List.set_cons_succ, i64_w, i32_w, c12]; rfl
       refine drq_of [(25, some 58)] ?_
       repeat (first | (refine drq_pure HT (v := ?_) (a' := ?_) rfl rfl (by kernel_rfl) (fun _ _ _ h => h) (.inl ⟨by rfl, ?_⟩) ?_ ?_; rotate_left; (intro w'; go_simp; with_reducible rfl); rotate_left; (simp only [Act.put, List.setIfInBounds_toArray, List.set_cons_zero, List.set_cons_succ, i64_w, i32_w]; rfl)))
       refine drq_end ?_
       refine dr_last 27 HT rfl (by kernel_rfl) (by decide) (fun K hK => ?_)
       refine if_wp (by rfl) ?_; refine wp_store 2 0 HS (seg := [.string t104001.1, .int .i64 t109001.1, .int .i64 t114001.1, .int .i64 t119001.1, .int .i64 t124001.1, .slice none 0 0, .string (⟨#[]⟩ : ByteArray)]) rfl rfl rfl rfl rfl rfl (by kernel_rfl) (by simp [wrt]) (by simp [Value.oneCell']) ?_; clear HS; (try clear F); intro w127001 HS
       (try simp only [hpn, hpm] at HS)
       have F := HS.boxes; simp only [boxFacts, and_true] at F
       refine hK.out _ _ ?_
       clear hK K
       refine norm_ ?_ (hJ (g9, .pointer (some ad102999), .agg #[.int .i64 ((rd_T65 y26 0).f0), .string ((rd_T65 y26 0).f1), .slice B102999_2 (rd_T65 y26 0).f2.length d102999_2], .pointer (some (ad102999.add 3)), .agg #[.int .i64 ((rd_T65 y26 1).f0), .string ((rd_T65 y26 1).f1), .slice B107999_2 (rd_T65 y26 1).f2.length d107999_2], .pointer (some (ad102999.add 6)), .agg #[.int .i64 ((rd_T65 y26 2).f0), .string ((rd_T65 y26 2).f1), .slice B112999_2 (rd_T65 y26 2).f2.length d112999_2], .pointer (some (ad102999.add 9)), .agg #[.int .i64 ((rd_T65 y26 3).f0), .string ((rd_T65 y26 3).f1), .slice B117999_2 (rd_T65 y26 3).f2.length d117999_2], .pointer (some (ad102999.add 12)), .agg #[.int .i64 ((rd_T65 y26 4).f0), .string ((rd_T65 y26 4).f1), .slice B122999_2 (rd_T65 y26 4).f2.length d122999_2]) _ (HS.arr [some 0, some 1, some 2] (by decide)))
       simp only [putAll, Act.put, List.setIfInBounds_toArray, List.set_cons_zero, List.set_cons_succ, i64_w, i32_w, c12]
       (try rfl)
   rintro ⟨g9, pe35, pe36, pe40, pe41, pe45, pe46, pe50, pe51, pe55, pe56⟩ w199999 HS
   have F := HS.boxes; simp only [boxFacts, and_true] at F
   refine norm_ (a' := ?_) ?_ ?_
   rotate_left
   · simp only [putAll, Act.put, List.setIfInBounds_toArray, List.set_cons_zero, List.set_cons_succ, i64_w, i32_w, c12]; rfl
   refine done_ (done_of HT.out (by kernel_rfl)) ?_
   by_cases c32 : 5 < (y26.length : Int)
   case neg => exact zno c32 H
   replace H := zpos c32 H
   replace c32 := eq_true c32
   have c32n : (5 < y26.length) = True := eq_true (by have := of_eq_true c32; omega)
   obtain ⟨ad33, B33_2, d33_2, hq33, e33_0, e33_1, e33_2, m33_2, y33_2⟩ := at_T65 gj26 5 (of_eq_true (eq_true (by decide))) (of_eq_true c32)
   obtain rfl := Option.some.inj hq33
   (try (have e33_0' := e33_0; simp only [Int.toNat_zero, Int.reduceToNat, Int.toNat_natCast, Nat.zero_mul, Nat.one_mul, Nat.zero_add, Nat.add_zero, Addr.add_zero', Addr.add_succ', Nat.reduceMul, Nat.reduceAdd] at e33_0'))
   (try (have e33_1' := e33_1; simp only [Int.toNat_zero, Int.reduceToNat, Int.toNat_natCast, Nat.zero_mul, Nat.one_mul, Nat.zero_add, Nat.add_zero, Addr.add_zero', Addr.add_succ', Nat.reduceMul, Nat.reduceAdd] at e33_1'))
   (try (have e33_2' := e33_2; simp only [Int.toNat_zero, Int.reduceToNat, Int.toNat_natCast, Nat.zero_mul, Nat.one_mul, Nat.zero_add, Nat.add_zero, Addr.add_zero', Addr.add_succ', Nat.reduceMul, Nat.reduceAdd] at e33_2'))
   have e33_0_33 := (hV.keepc HS e33_0)
   have e33_1_33 := (hV.keepc HS e33_1)
   have e33_2_33 := (hV.keepc HS e33_2)
   (try have e33_0'_33 := (hV.keepc HS e33_0'))
   (try have e33_1'_33 := (hV.keepc HS e33_1'))
   (try have e33_2'_33 := (hV.keepc HS e33_2'))
   replace H := zbind H; obtain ⟨t34, ht34, H⟩ := H
   replace H := zlets H; obtain ⟨y37, e_y37, H⟩ := H
   go_wp2_with (first | ((with_reducible refine gate_dst (N := 63) rfl ?_); refine HS.lend [1] (by decide) [.box g24 [.bool t124001.2.f0] 86] rfl (fun A' HL HD HA HB => ?_); refine ev_call rfl Tryd.func53 (by kernel_rfl) rfl #[.pointer (some ⟨g24, 0, none⟩), .agg #[.int .i64 ((rd_T65 y26 5).f0), .string ((rd_T65 y26 5).f1), .slice B33_2 (rd_T65 y26 5).f2.length d33_2], .int .i64 (-1)] rfl (by simp only [List.map_toArray, List.map_cons, List.map_nil]; rfl) ?_; refine (impl_opener_list_0.calls ht34.out y33_2 m33_2 (hV.lend HS HL) HA).mono ?_; rintro _ wt34 ⟨v35, rfl, HQ⟩; refine ⟨_, rfl, ?_⟩; replace HS := HB _ _ HQ (Nat.le_of_ble_eq_true rfl); clear HQ HA HB HL HD; (try simp only [hpn, hpm] at HS); (try clear F); obtain ⟨B35, d35, rfl, m35⟩ := HS.formn t34.1.2 3 rfl (by first | rfl | simp); refine HS.lend [0, 1, 2] (by decide) [.box g2 [.string (⟨#[]⟩ : ByteArray), .int .i64 0, .int .i64 0, .int .i64 0, .int .i64 0, .slice none 0 0, .string (⟨#[]⟩ : ByteArray)] 50, .box g24 [.bool t34.2.f0] 86, .box g9 [.string t104001.1, .int .i64 t109001.1, .int .i64 t114001.1, .int .i64 t119001.1, .int .i64 t124001.1, .slice none 0 0, .string (⟨#[]⟩ : ByteArray)] 50] rfl (fun A38 HL HD HA HB38 => ?_); have gb38_0 := hV.hideC km65 HS HL gb27_0; have zg4_b19_0_b27_b38 := hV.hidec HS HL zg4_b19_0_b27; have zg4_b19_1_b27_b38 := hV.hidec HS HL zg4_b19_1_b27; have zg4_b19_2_b27_b38 := hV.hidec HS HL zg4_b19_2_b27; have gb38_4 := hV.hideC km65 HS HL gb27_4; have gb38_5 := hV.hideC km65 HS HL gb27_5; have gb38_6 := hV.hideC km65 HS HL gj26; have gb38_7 := hV.hideC km65 HS HL y102999_2; have gb38_8 := hV.hideC km65 HS HL y107999_2; have gb38_9 := hV.hideC km65 HS HL y112999_2; have gb38_10 := hV.hideC km65 HS HL y117999_2; have gb38_11 := hV.hideC km65 HS HL y122999_2; have gb38_12 := hV.hideC km65 HS HL y33_2; have gb38_13 := hide_rd HD 3 rfl (by decide); (try replace hgM := hV.hidec HS HL hgM); replace HS := HA; replace hV := hide_view A38 wt34; clear HA HD HL; (try clear F); replace HS : Hp A38 wt34 _ [.box g2 [.string (⟨#[]⟩ : ByteArray), .int .i64 0, .int .i64 0, .int .i64 0, .int .i64 0, .slice none 0 0, .string (⟨#[]⟩ : ByteArray)] 50, .box g24 [.bool t34.2.f0] 86, .box g9 [.string t104001.1, .int .i64 t109001.1, .int .i64 t114001.1, .int .i64 t119001.1, .int .i64 t124001.1, .slice none 0 0, .string (⟨#[]⟩ : ByteArray)] 50] := HS; have F := HS.boxes; simp only [boxFacts, and_true] at F; obtain ⟨B37, d37, ej37, m37, gj37⟩ := join_row e_y37.out gb38_12 m33_2 gb38_13 m35; rw [ej37]; (try simp only [hpn, hpm] at HS); have F := HS.boxes; simp only [boxFacts, and_true] at F))
   replace HS := HS.nil 82 q82
   go_loopg [65] k (fun kq v_65 w' => ∃ (l87 : List S82) (v88 : Value) (x89 : Int) (x90 : Bool), v_65 = .int .i64 x89 ∧ Aside0 (impl_ReadCrl.l0 kq l87 x89 x90 a0 y18 t104001 t109001 t114001 t119001 t124001 y37 = some (r1, r2)) ∧ Aside0 (kq ≤ k) ∧ Hp A38 wt34 w' [.box g2 [.string (⟨#[]⟩ : ByteArray), .int .i64 0, .int .i64 0, .int .i64 0, .int .i64 0, .slice none 0 0, .string (⟨#[]⟩ : ByteArray)] 50, .box g24 [.bool x90] 86, .box g9 [.string t104001.1, .int .i64 t109001.1, .int .i64 t114001.1, .int .i64 t119001.1, .int .i64 t124001.1, v88, .string (⟨#[]⟩ : ByteArray)] 50, .own (Zd.slice 82 q82) l87 [v88]])
   case atStart => exact ⟨_, _, _, _, rfl, H, ⟨Nat.le_refl _⟩, HS⟩
   case round =>
    clear HS H; (try clear F)
    obtain ⟨l87, v88, x89, x90, rfl, H, HKk86, HS⟩ := hrel
    obtain ⟨B88, d88, rfl, m88⟩ := HS.form 3 rfl
    have F := HS.boxes; simp only [boxFacts, and_true] at F
    cases gk with
    | zero => exact absurd H.out (by simp [impl_ReadCrl.l0])
    | succ k86 =>
     simp only [impl_ReadCrl.l0] at H
     by_cases c92 : x89 < (y37.length : Int)
     · replace H := zpos c92 H
       replace c92 := eq_true c92
       by_cases c93 : 0 ≤ x89
       case neg => exact zno c93 H
       replace H := zpos c93 H
       replace c93 := eq_true c93
       by_cases c94 : x89 < (y37.length : Int)
       case neg => exact zno c94 H
       replace H := zpos c94 H
       replace c94 := eq_true c94
       obtain ⟨ad95, B95_2, d95_2, rfl, e95_0, e95_1, e95_2, m95_2, y95_2⟩ := at_T65 gj37 x89 (of_eq_true c93) (of_eq_true c94)
       have e95_0_95 := (hV.keepc HS e95_0)
       have e95_1_95 := (hV.keepc HS e95_1)
       have e95_2_95 := (hV.keepc HS e95_2)
       replace H := zbind H; obtain ⟨t100, ht100, H⟩ := H
       replace H := zlets H; obtain ⟨y103, e_y103, H⟩ := H
       go_wp2_with (first | ((with_reducible refine gate_dst (N := 11) rfl ?_); refine ev_box rfl HS (by first | (go_simp; done) | (go_simp; rfl)) rfl ?_; clear HS; (try clear F); intro g11 w11 HS; (try simp only [hpn, hpm] at HS); have F := HS.boxes; simp only [boxFacts, and_true] at F) | ((with_reducible refine gate_store (p := 11) rfl ?_); refine ev_store rfl 4 0 HS (seg := [.int .i64 ((rd_T65 y37 x89).f0), .string ((rd_T65 y37 x89).f1), .slice B95_2 (rd_T65 y37 x89).f2.length d95_2]) rfl rfl rfl rfl rfl rfl (by kernel_rfl) (by simp [wrt]) (by simp [Value.oneCell']) ?_; clear HS; (try clear F); intro w98 HS; (try simp only [hpn, hpm] at HS); have F := HS.boxes; simp only [boxFacts, and_true] at F) | ((with_reducible refine gate_dst (N := 71) rfl ?_); refine HS.lend [1] (by decide) [.box g24 [.bool x90] 86] rfl (fun A' HL HD HA HB => ?_); refine ev_call rfl Tryd.func53 (by kernel_rfl) rfl #[.pointer (some ⟨g24, 0, none⟩), .agg #[.int .i64 ((rd_T65 y37 x89).f0), .string ((rd_T65 y37 x89).f1), .slice B95_2 (rd_T65 y37 x89).f2.length d95_2], .int .i64 2] rfl (by simp only [List.map_toArray, List.map_cons, List.map_nil]; rfl) ?_; refine (impl_opener_list_0.calls ht100.out y95_2 m95_2 (hV.lend HS HL) HA).mono ?_; rintro _ wt100 ⟨v101, rfl, HQ⟩; refine ⟨_, rfl, ?_⟩; replace HS := HB _ _ HQ (Nat.le_of_ble_eq_true rfl); clear HQ HA HB HL HD; (try simp only [hpn, hpm] at HS); (try clear F); obtain ⟨B101, d101, rfl, m101⟩ := HS.formn t100.1.2 5 rfl (by first | rfl | simp); refine HS.lend [0, 1, 2, 3] (by decide) [.box g2 [.string (⟨#[]⟩ : ByteArray), .int .i64 0, .int .i64 0, .int .i64 0, .int .i64 0, .slice none 0 0, .string (⟨#[]⟩ : ByteArray)] 50, .box g24 [.bool t100.2.f0] 86, .box g9 [.string t104001.1, .int .i64 t109001.1, .int .i64 t114001.1, .int .i64 t119001.1, .int .i64 t124001.1, .slice B88 l87.length d88, .string (⟨#[]⟩ : ByteArray)] 50, .own (Zd.slice 82 q82) l87 [.slice B88 l87.length d88]] rfl (fun A104 HL HD HA HB104 => ?_); have gb104_0 := hV.hideC km65 HS HL y95_2; have zg11_b104_0 := hide_box HD 4 rfl (by decide) (j := 0) rfl; have zg11_b104_1 := hide_box HD 4 rfl (by decide) (j := 1) rfl; have zg11_b104_2 := hide_box HD 4 rfl (by decide) (j := 2) rfl; have gb104_1 := hV.hideC km65 HS HL gb38_0; have zg4_b19_0_b27_b38_b104 := hV.hidec HS HL zg4_b19_0_b27_b38; have zg4_b19_1_b27_b38_b104 := hV.hidec HS HL zg4_b19_1_b27_b38; have zg4_b19_2_b27_b38_b104 := hV.hidec HS HL zg4_b19_2_b27_b38; have gb104_5 := hV.hideC km65 HS HL gb38_4; have gb104_6 := hV.hideC km65 HS HL gb38_5; have gb104_7 := hV.hideC km65 HS HL gb38_6; have gb104_8 := hV.hideC km65 HS HL gb38_7; have gb104_9 := hV.hideC km65 HS HL gb38_8; have gb104_10 := hV.hideC km65 HS HL gb38_9; have gb104_11 := hV.hideC km65 HS HL gb38_10; have gb104_12 := hV.hideC km65 HS HL gb38_11; have gb104_13 := hV.hideC km65 HS HL gb38_12; have gb104_14 := hV.hideC km65 HS HL gj37; have gb104_15 := hide_rd HD 5 rfl (by decide); (try replace hgM := hV.hidec HS HL hgM); replace HS := HA; replace hV := hide_view A104 wt100; clear HA HD HL; (try clear F); replace HS : Hp A104 wt100 _ [.box g2 [.string (⟨#[]⟩ : ByteArray), .int .i64 0, .int .i64 0, .int .i64 0, .int .i64 0, .slice none 0 0, .string (⟨#[]⟩ : ByteArray)] 50, .box g24 [.bool t100.2.f0] 86, .box g9 [.string t104001.1, .int .i64 t109001.1, .int .i64 t114001.1, .int .i64 t119001.1, .int .i64 t124001.1, .slice B88 l87.length d88, .string (⟨#[]⟩ : ByteArray)] 50, .own (Zd.slice 82 q82) l87 [.slice B88 l87.length d88]] := HS; have F := HS.boxes; simp only [boxFacts, and_true] at F; obtain ⟨B103, d103, ej103, m103, gj103⟩ := join_row e_y103.out gb104_0 m95_2 gb104_15 m101; rw [ej103]; (try simp only [hpn, hpm] at HS); have F := HS.boxes; simp only [boxFacts, and_true] at F))
       by_cases c404001 : 0 < (y103.length : Int)
       case neg => exact zno c404001 H
       replace H := zpos c404001 H
       replace c404001 := eq_true c404001
       have c404001n : (0 < y103.length) = True := eq_true (by have := of_eq_true c404001; omega)
       obtain ⟨ad404999, B404999_2, d404999_2, rfl, e404999_0, e404999_1, e404999_2, m404999_2, y404999_2⟩ := at_T65 gj103 0 (of_eq_true (eq_true (by decide))) (of_eq_true c404001); (try (have e404999_0' := e404999_0; simp only [Int.toNat_zero, Int.reduceToNat, Int.toNat_natCast, Nat.zero_mul, Nat.one_mul, Nat.zero_add, Nat.add_zero, Addr.add_zero', Addr.add_succ', Nat.reduceMul, Nat.reduceAdd] at e404999_0')); (try (have e404999_1' := e404999_1; simp only [Int.toNat_zero, Int.reduceToNat, Int.toNat_natCast, Nat.zero_mul, Nat.one_mul, Nat.zero_add, Nat.add_zero, Addr.add_zero', Addr.add_succ', Nat.reduceMul, Nat.reduceAdd] at e404999_1')); (try (have e404999_2' := e404999_2; simp only [Int.toNat_zero, Int.reduceToNat, Int.toNat_natCast, Nat.zero_mul, Nat.one_mul, Nat.zero_add, Nat.add_zero, Addr.add_zero', Addr.add_succ', Nat.reduceMul, Nat.reduceAdd] at e404999_2'))
       replace H := zbind H; obtain ⟨t406001, ht406001, H⟩ := H
       by_cases c409001 : 1 < (y103.length : Int)
       case neg => exact zno c409001 H
       replace H := zpos c409001 H
       replace c409001 := eq_true c409001
       have c409001n : (1 < y103.length) = True := eq_true (by have := of_eq_true c409001; omega)
       obtain ⟨ad409999, B409999_2, d409999_2, hq409999, e409999_0, e409999_1, e409999_2, m409999_2, y409999_2⟩ := at_T65 gj103 1 (of_eq_true (eq_true (by decide))) (of_eq_true c409001); obtain rfl := Option.some.inj hq409999; (try (have e409999_0' := e409999_0; simp only [Int.toNat_zero, Int.reduceToNat, Int.toNat_natCast, Nat.zero_mul, Nat.one_mul, Nat.zero_add, Nat.add_zero, Addr.add_zero', Addr.add_succ', Nat.reduceMul, Nat.reduceAdd] at e409999_0')); (try (have e409999_1' := e409999_1; simp only [Int.toNat_zero, Int.reduceToNat, Int.toNat_natCast, Nat.zero_mul, Nat.one_mul, Nat.zero_add, Nat.add_zero, Addr.add_zero', Addr.add_succ', Nat.reduceMul, Nat.reduceAdd] at e409999_1')); (try (have e409999_2' := e409999_2; simp only [Int.toNat_zero, Int.reduceToNat, Int.toNat_natCast, Nat.zero_mul, Nat.one_mul, Nat.zero_add, Nat.add_zero, Addr.add_zero', Addr.add_succ', Nat.reduceMul, Nat.reduceAdd] at e409999_2'))
       replace H := zbind H; obtain ⟨t411001, ht411001, H⟩ := H
       by_cases c414001 : l87.length + 1 ≤ 8796093022208
       case neg => exact zno c414001 H
       replace H := zpos c414001 H
       replace c414001 := eq_true c414001
       replace H := zlets H; obtain ⟨y414999, e_y414999, H⟩ := H
       refine dr_start2 [.box g2 [.string (⟨#[]⟩ : ByteArray), .int .i64 0, .int .i64 0, .int .i64 0, .int .i64 0, .slice none 0 0, .string (⟨#[]⟩ : ByteArray)] 50, .emp, .box g9 [.string t104001.1, .int .i64 t109001.1, .int .i64 t114001.1, .int .i64 t119001.1, .int .i64 t124001.1, .slice B88 l87.length d88, .string (⟨#[]⟩ : ByteArray)] 50, .emp] [16] HS (HS.arr [some 0, none, some 2, none] (by decide)) #[false, false, false, false, false, false, false, false, false, false, false, false, false, false, false, false, false] (by kernel_rfl) rfl rfl impl_ReadCrl.tT12 (fun w107 HT HS HH => ?_)
       (try clear F)
       refine drq_of [(0, some 72), (1, some 73), (2, some 74), (3, some 75), (4, some 76)] ?_
       repeat (first | (refine drq_pure HT (v := ?_) (a' := ?_) rfl rfl (by kernel_rfl) (fun _ _ _ h => h) (.inl ⟨by rfl, ?_⟩) ?_ ?_; rotate_left; (intro w'; go_simp; with_reducible rfl); rotate_left; (simp only [Act.put, List.setIfInBounds_toArray, List.set_cons_zero, List.set_cons_succ, i64_w, i32_w]; rfl)) | (refine drq_take HT HH (v := ?_) (a' := ?_) rfl rfl (by kernel_rfl) (fun _ _ _ h => h) (.inl ⟨by rfl, ?_⟩) ?_ ?_; rotate_left; (rintro w' ⟨rs', HS'⟩; have F := HS'.boxes; simp only [boxFacts, List.cons_append, List.nil_append, and_true] at F; go_simp; with_reducible rfl); rotate_left; (simp only [Act.put, List.setIfInBounds_toArray, List.set_cons_zero, List.set_cons_succ, i64_w, i32_w]; rfl)))
       refine drq_end ?_
       refine dr_take 5 (some 77) HT HH (v := ?_) (a' := ?_) rfl rfl (by kernel_rfl) (fun _ _ _ h => h) (.inl ⟨by rfl, ?_⟩) ?_ ?_
       rotate_left
       · rintro w' ⟨rs', HS'⟩; have e404999_0 := (hV.keepc HS' e404999_0); have e404999_1 := (hV.keepc HS' e404999_1); have e404999_2 := (hV.keepc HS' e404999_2); (try simp only [Int.toNat_zero, Int.reduceToNat, Int.toNat_natCast, Nat.zero_mul, Nat.one_mul, Nat.zero_add, Nat.add_zero, Addr.add_zero', Addr.add_succ', Nat.reduceMul, Nat.reduceAdd] at e404999_0 e404999_1 e404999_2); go_simp; with_reducible rfl
       rotate_left
       · simp only [Act.put, List.setIfInBounds_toArray, List.set_cons_zero, List.set_cons_succ, i64_w, i32_w]; rfl
       refine drq_of [(7, some 79), (8, some 80), (9, some 81)] ?_
       repeat (first | (refine drq_pure HT (v := ?_) (a' := ?_) rfl rfl (by kernel_rfl) (fun _ _ _ h => h) (.inl ⟨by rfl, ?_⟩) ?_ ?_; rotate_left; (intro w'; go_simp; with_reducible rfl); rotate_left; (simp only [Act.put, List.setIfInBounds_toArray, List.set_cons_zero, List.set_cons_succ, i64_w, i32_w]; rfl)))
       refine drq_end ?_
       refine dr_take 10 (some 82) HT HH (v := ?_) (a' := ?_) rfl rfl (by kernel_rfl) (fun _ _ _ h => h) (.inl ⟨by rfl, ?_⟩) ?_ ?_
       rotate_left
       · rintro w' ⟨rs', HS'⟩; have e409999_0 := (hV.keepc HS' e409999_0); have e409999_1 := (hV.keepc HS' e409999_1); have e409999_2 := (hV.keepc HS' e409999_2); (try simp only [Int.toNat_zero, Int.reduceToNat, Int.toNat_natCast, Nat.zero_mul, Nat.one_mul, Nat.zero_add, Nat.add_zero, Addr.add_zero', Addr.add_succ', Nat.reduceMul, Nat.reduceAdd] at e409999_0 e409999_1 e409999_2); go_simp; with_reducible rfl
       rotate_left
       · simp only [Act.put, List.setIfInBounds_toArray, List.set_cons_zero, List.set_cons_succ, i64_w, i32_w]; rfl
       refine dr_one 6 HT rfl (by kernel_rfl) (by decide) (fun K hK => ?_)
       refine HS.lend [1] (by decide) [.box g24 [.bool t100.2.f0] 86] rfl (fun A' HL HD HA HB => ?_); refine goes_ Tryd.func55 (by kernel_rfl) rfl #[.pointer (some ⟨g24, 0, none⟩), .agg #[.int .i64 ((rd_T65 y103 0).f0), .string ((rd_T65 y103 0).f1), .slice B404999_2 (rd_T65 y103 0).f2.length d404999_2]] (by rfl) rfl rfl (by simp only [List.map_toArray, List.map_cons, List.map_nil]; rfl) ?_; refine (impl_opener_num_0.calls ht406001.out y404999_2 m404999_2 (hV.lend HS HL) HA).mono ?_; rintro _ wt406001 ⟨rfl, HQ⟩; refine ⟨_, rfl, ?_⟩; replace HS := HB _ _ HQ (Nat.le_of_ble_eq_true rfl); clear HQ HA HB HL HD; (try simp only [hpn, hpm] at HS); (try clear F)
       (try simp only [hpn, hpm] at HS)
       have F := HS.boxes; simp only [boxFacts, and_true] at F
       refine hK.out _ _ ⟨[], HS.arr [some 0, none, some 2, none] (by decide)⟩ (fun HH => ?_)
       clear hK K
       refine norm_ (a' := ?_) ?_ ?_
       rotate_left
       · show Act.put _ (some 78) _ = _; simp only [Act.put, List.setIfInBounds_toArray, List.set_cons_zero, List.set_cons_succ, i64_w, i32_w, c12]; rfl
       refine dr_one 11 HT rfl (by kernel_rfl) (by decide) (fun K hK => ?_)
       refine HS.lend [1] (by decide) [.box g24 [.bool t406001.2.f0] 86] rfl (fun A' HL HD HA HB => ?_); refine goes_ Tryd.func55 (by kernel_rfl) rfl #[.pointer (some ⟨g24, 0, none⟩), .agg #[.int .i64 ((rd_T65 y103 1).f0), .string ((rd_T65 y103 1).f1), .slice B409999_2 (rd_T65 y103 1).f2.length d409999_2]] (by rfl) rfl rfl (by simp only [List.map_toArray, List.map_cons, List.map_nil]; rfl) ?_; refine (impl_opener_num_0.calls ht411001.out y409999_2 m409999_2 (hV.lend HS HL) HA).mono ?_; rintro _ wt411001 ⟨rfl, HQ⟩; refine ⟨_, rfl, ?_⟩; replace HS := HB _ _ HQ (Nat.le_of_ble_eq_true rfl); clear HQ HA HB HL HD; (try simp only [hpn, hpm] at HS); (try clear F)
       (try simp only [hpn, hpm] at HS)
       have F := HS.boxes; simp only [boxFacts, and_true] at F
       refine hK.out _ _ ⟨[], HS.arr [some 0, none, some 2, none] (by decide)⟩ (fun HH => ?_)
       clear hK K
       refine norm_ (a' := ?_) ?_ ?_
       rotate_left
       · show Act.put _ (some 83) _ = _; simp only [Act.put, List.setIfInBounds_toArray, List.set_cons_zero, List.set_cons_succ, i64_w, i32_w, c12]; rfl
       refine drq_of [(12, some 84)] ?_
       repeat (first | (refine drq_pure HT (v := ?_) (a' := ?_) rfl rfl (by kernel_rfl) (fun _ _ _ h => h) (.inl ⟨by rfl, ?_⟩) ?_ ?_; rotate_left; (intro w'; go_simp; with_reducible rfl); rotate_left; (simp only [Act.put, List.setIfInBounds_toArray, List.set_cons_zero, List.set_cons_succ, i64_w, i32_w]; rfl)))
       refine drq_end ?_
       refine dr_one 13 HT rfl (by kernel_rfl) (by decide) (fun K hK => ?_)
       refine if_wp (by rfl) ?_; refine wp_lit q82 [] ([(⟨t406001.1, t411001.1⟩ : S82)] : List S82) ([.int .i64 t406001.1, .int .i64 t411001.1] ++ []) HS (by first | (go_simp; done) | (go_simp; rfl)) rfl rfl (Nat.le_of_ble_eq_true rfl) (MadeL.cons (js1 := []) (c := [.int .i64 t406001.1, .int .i64 t411001.1]) rfl (made_flat (fun _ => q82_flat _ _ _)) MadeL.nil (by decide)) ?_; clear HS; (try clear F); intro v413001 w413001 HS; obtain ⟨B413001, d413001, rfl, m413001⟩ := HS.formn 1 4 rfl rfl
       (try simp only [hpn, hpm] at HS)
       have F := HS.boxes; simp only [boxFacts, and_true] at F
       refine hK.out _ _ ⟨[], HS.arr [some 0, none, some 2, none] (by decide)⟩ (fun HH => ?_)
       clear hK K
       refine norm_ (a' := ?_) ?_ ?_
       rotate_left
       · show Act.put _ (some 85) _ = _; simp only [Act.put, List.setIfInBounds_toArray, List.set_cons_zero, List.set_cons_succ, i64_w, i32_w, c12]; rfl
       refine dr_one 14 HT rfl (by kernel_rfl) (by decide) (fun K hK => ?_)
       refine if_wp (by rfl) ?_; refine wp_append q82 3 4 HS rfl rfl (by decide) rfl rfl rfl Tryd.underlying48 info82 rfl (by decide) (by decide) (by have := of_eq_true c414001; first | omega | (simp only [List.length_cons, List.length_nil, List.length_append, Nat.zero_add] at this ⊢; omega)) ?_; clear HS; (try clear F); intro v414999 w414999 HS; rw [← e_y414999.out] at HS; obtain ⟨B414999, d414999, rfl, m414999⟩ := HS.form 5 rfl
       (try simp only [hpn, hpm] at HS)
       have F := HS.boxes; simp only [boxFacts, and_true] at F
       refine hK.out _ _ ⟨[], HS.arr [some 0, none, some 2, none] (by decide)⟩ (fun HH => ?_)
       clear hK K
       refine norm_ (a' := ?_) ?_ ?_
       rotate_left
       · show Act.put _ (some 86) _ = _; simp only [Act.put, List.setIfInBounds_toArray, List.set_cons_zero, List.set_cons_succ, i64_w, i32_w, c12]; rfl
       refine drq_of [(15, some 87)] ?_
       repeat (first | (refine drq_pure HT (v := ?_) (a' := ?_) rfl rfl (by kernel_rfl) (fun _ _ _ h => h) (.inl ⟨by rfl, ?_⟩) ?_ ?_; rotate_left; (intro w'; go_simp; with_reducible rfl); rotate_left; (simp only [Act.put, List.setIfInBounds_toArray, List.set_cons_zero, List.set_cons_succ, i64_w, i32_w]; rfl)))
       refine drq_end ?_
       refine dr_last 16 HT rfl (by kernel_rfl) (by decide) (fun K hK => ?_)
       refine if_wp (by rfl) ?_; refine wp_store 2 5 HS (seg := [.slice B414999 y414999.length d414999]) rfl rfl rfl rfl rfl rfl (by kernel_rfl) (by simp [wrt]) (by simp [Value.oneCell']) ?_; clear HS; (try clear F); intro w416001 HS
       (try simp only [hpn, hpm] at HS)
       have F := HS.boxes; simp only [boxFacts, and_true] at F
       refine hK.out _ _ ?_
       clear hK K
       refine done_ (done_of HT.out (by kernel_rfl)) ?_
       (try clear F)
       have F := HS.boxes; simp only [boxFacts, and_true] at F
       go_wp2
       have HS := HB104 _ _ HS (Nat.le_of_ble_eq_true rfl)
       go_roundg k86
       case measure => have := HKk86.out; omega
       case rel => exact ⟨_, _, _, _, rfl, H, ⟨by have := HKk86.out; omega⟩, HS.pick [0, 1, 2, 7] (by decide) (by rfl)⟩
     · replace H := zneg c92 H
       replace c92 := eq_false c92
       by_cases c109 : 1 < (y18.length : Int)
       case neg => exact zno c109 H
       replace H := zpos c109 H
       replace c109 := eq_true c109
       have c109n : (1 < y18.length) = True := eq_true (by have := of_eq_true c109; omega)
       obtain ⟨ad110, B110_2, d110_2, hq110, e110_0, e110_1, e110_2, m110_2, y110_2⟩ := at_T65 gb38_4 1 (of_eq_true (eq_true (by decide))) (of_eq_true c109)
       obtain rfl := Option.some.inj hq110
       (try (have e110_0' := e110_0; simp only [Int.toNat_zero, Int.reduceToNat, Int.toNat_natCast, Nat.zero_mul, Nat.one_mul, Nat.zero_add, Nat.add_zero, Addr.add_zero', Addr.add_succ', Nat.reduceMul, Nat.reduceAdd] at e110_0'))
       (try (have e110_1' := e110_1; simp only [Int.toNat_zero, Int.reduceToNat, Int.toNat_natCast, Nat.zero_mul, Nat.one_mul, Nat.zero_add, Nat.add_zero, Addr.add_zero', Addr.add_succ', Nat.reduceMul, Nat.reduceAdd] at e110_1'))
       (try (have e110_2' := e110_2; simp only [Int.toNat_zero, Int.reduceToNat, Int.toNat_natCast, Nat.zero_mul, Nat.one_mul, Nat.zero_add, Nat.add_zero, Addr.add_zero', Addr.add_succ', Nat.reduceMul, Nat.reduceAdd] at e110_2'))
       have e110_0_110 := (hV.keepc HS e110_0)
       have e110_1_110 := (hV.keepc HS e110_1)
       have e110_2_110 := (hV.keepc HS e110_2)
       (try have e110_0'_110 := (hV.keepc HS e110_0'))
       (try have e110_1'_110 := (hV.keepc HS e110_1'))
       (try have e110_2'_110 := (hV.keepc HS e110_2'))
       replace H := zbind H; obtain ⟨t111, ht111, H⟩ := H
       replace H := zbind H; obtain ⟨t115, ht115, H⟩ := H
       by_cases c117 : t111.2.f0 = true
       · replace H := zpos c117 H
         obtain ⟨rfl, rfl⟩ := zsome2 H
         go_wp2_with (first | ((with_reducible refine gate_dst (N := 93) rfl ?_); refine HS.lend [1] (by decide) [.box g24 [.bool x90] 86] rfl (fun A' HL HD HA HB => ?_); refine ev_call rfl Tryd.func54 (by kernel_rfl) rfl #[.pointer (some ⟨g24, 0, none⟩), .agg #[.int .i64 ((rd_T65 y18 1).f0), .string ((rd_T65 y18 1).f1), .slice B110_2 (rd_T65 y18 1).f2.length d110_2], .int .i64 4] rfl (by simp only [List.map_toArray, List.map_cons, List.map_nil]; rfl) ?_; refine (impl_opener_text_0.calls ht111.out y110_2 m110_2 (hV.lend HS HL) HA).mono ?_; rintro _ wt111 ⟨rfl, HQ⟩; refine ⟨_, rfl, ?_⟩; replace HS := HB _ _ HQ (Nat.le_of_ble_eq_true rfl); clear HQ HA HB HL HD; (try simp only [hpn, hpm] at HS); (try clear F); (try simp only [hpn, hpm] at HS); have F := HS.boxes; simp only [boxFacts, and_true] at F) | ((with_reducible refine gate_store (p := 94) rfl ?_); refine ev_store rfl 2 6 HS (seg := [.string t111.1]) rfl rfl rfl rfl rfl rfl (by kernel_rfl) (by simp [wrt]) (by simp [Value.oneCell']) ?_; clear HS; (try clear F); intro w113 HS; (try simp only [hpn, hpm] at HS); have F := HS.boxes; simp only [boxFacts, and_true] at F) | ((with_reducible refine gate_dst (N := 97) rfl ?_); refine ev_call rfl Tryd.func56 (by kernel_rfl) rfl #[.agg #[.string t104001.1, .int .i64 t109001.1, .int .i64 t114001.1, .int .i64 t119001.1, .int .i64 t124001.1, .slice B88 l87.length d88, .string t111.1]] rfl (by simp only [List.map_toArray, List.map_cons, List.map_nil]; rfl) ?_; refine (impl_CrlText.calls ht115.out (HS.rd 3 rfl) m88 (hV.keepc HS hgM)).mono ?_; rintro _ wt115 ⟨rfl, HQ⟩; refine ⟨_, rfl, ?_⟩; replace HS := HS.call HQ; clear HQ; (try clear F); (try simp only [hpn, hpm] at HS); have F := HS.boxes; simp only [boxFacts, and_true] at F; (try simp only [c117])) | ((with_reducible refine gate_store (p := 2) rfl ?_); refine ev_store rfl 0 0 HS (seg := [.string (⟨#[]⟩ : ByteArray), .int .i64 0, .int .i64 0, .int .i64 0, .int .i64 0, .slice none 0 0, .string (⟨#[]⟩ : ByteArray)]) rfl rfl rfl rfl rfl rfl (by kernel_rfl) (by simp [wrt]) (by simp [Value.oneCell']) ?_; clear HS; (try clear F); intro w118 HS; (try simp only [hpn, hpm] at HS); have F := HS.boxes; simp only [boxFacts, and_true] at F))
         have HS := HB38 _ _ HS (Nat.le_of_ble_eq_true rfl)
         have HS := HB27 _ _ HS (Nat.le_of_ble_eq_true rfl)
         have HS := HB19 _ _ HS (Nat.le_of_ble_eq_true rfl)
         have HS := HB6 _ _ HS (Nat.le_of_ble_eq_true rfl)
         replace HS := HS.nil 82 q82
         exact bodyPost_ret (results_list (rs := [.cell 2 50, .tmp 3]) rfl (by simp) (.cell _ _ _ _ _ rfl (HS.boxAt (i := 0) rfl) Tryd.underlying50 rfl (by kernel_rfl) (.tmp .nil))) rfl ⟨_, rfl, HS.pick [9] (by decide) (by rfl)⟩
       · replace H := zneg c117 H
         replace c117 := eq_false_of_ne_true c117
         by_cases c120 : t115.2 = true
         · replace H := zpos c120 H
           go_upto_if 112 with (first | ((with_reducible refine gate_dst (N := 93) rfl ?_); refine HS.lend [1] (by decide) [.box g24 [.bool x90] 86] rfl (fun A' HL HD HA HB => ?_); refine ev_call rfl Tryd.func54 (by kernel_rfl) rfl #[.pointer (some ⟨g24, 0, none⟩), .agg #[.int .i64 ((rd_T65 y18 1).f0), .string ((rd_T65 y18 1).f1), .slice B110_2 (rd_T65 y18 1).f2.length d110_2], .int .i64 4] rfl (by simp only [List.map_toArray, List.map_cons, List.map_nil]; rfl) ?_; refine (impl_opener_text_0.calls ht111.out y110_2 m110_2 (hV.lend HS HL) HA).mono ?_; rintro _ wt111 ⟨rfl, HQ⟩; refine ⟨_, rfl, ?_⟩; replace HS := HB _ _ HQ (Nat.le_of_ble_eq_true rfl); clear HQ HA HB HL HD; (try simp only [hpn, hpm] at HS); (try clear F); (try simp only [hpn, hpm] at HS); have F := HS.boxes; simp only [boxFacts, and_true] at F) | ((with_reducible refine gate_store (p := 94) rfl ?_); refine ev_store rfl 2 6 HS (seg := [.string t111.1]) rfl rfl rfl rfl rfl rfl (by kernel_rfl) (by simp [wrt]) (by simp [Value.oneCell']) ?_; clear HS; (try clear F); intro w113 HS; (try simp only [hpn, hpm] at HS); have F := HS.boxes; simp only [boxFacts, and_true] at F) | ((with_reducible refine gate_dst (N := 97) rfl ?_); refine ev_call rfl Tryd.func56 (by kernel_rfl) rfl #[.agg #[.string t104001.1, .int .i64 t109001.1, .int .i64 t114001.1, .int .i64 t119001.1, .int .i64 t124001.1, .slice B88 l87.length d88, .string t111.1]] rfl (by simp only [List.map_toArray, List.map_cons, List.map_nil]; rfl) ?_; refine (impl_CrlText.calls ht115.out (HS.rd 3 rfl) m88 (hV.keepc HS hgM)).mono ?_; rintro _ wt115 ⟨rfl, HQ⟩; refine ⟨_, rfl, ?_⟩; replace HS := HS.call HQ; clear HQ; (try clear F); (try simp only [hpn, hpm] at HS); have F := HS.boxes; simp only [boxFacts, and_true] at F; (try simp only [c117]); (try simp only [c120])))
           by_cases c121 : t115.1.toList = a0.toList
           · replace H := zpos c121 H
             have c121a := beq_iff_eq.mpr c121
             have c121b := bne_eq_false_iff_eq.mpr c121
             clear c121
             (try simp only [c121a, c121b, dcn])
             obtain ⟨rfl, rfl⟩ := zsome2 H
             go_wp2_with (first | ((with_reducible refine gate_store (p := 2) rfl ?_); refine ev_store rfl 0 0 HS (seg := [.string t104001.1, .int .i64 t109001.1, .int .i64 t114001.1, .int .i64 t119001.1, .int .i64 t124001.1, .slice B88 l87.length d88, .string t111.1]) rfl rfl rfl rfl rfl rfl (by kernel_rfl) (by simp [wrt]) (by simp [Value.oneCell']) ?_; clear HS; (try clear F); intro w122 HS; (try simp only [hpn, hpm] at HS); have F := HS.boxes; simp only [boxFacts, and_true] at F))
             have HS := HB38 _ _ HS (Nat.le_of_ble_eq_true rfl)
             have HS := HB27 _ _ HS (Nat.le_of_ble_eq_true rfl)
             have HS := HB19 _ _ HS (Nat.le_of_ble_eq_true rfl)
             have HS := HB6 _ _ HS (Nat.le_of_ble_eq_true rfl)
             exact bodyPost_ret (results_list (rs := [.cell 2 50, .tmp 3]) rfl (by simp) (.cell _ _ _ _ _ rfl (HS.boxAt (i := 0) rfl) Tryd.underlying50 rfl (by kernel_rfl) (.tmp .nil))) rfl ⟨_, rfl, HS.pick [8] (by decide) (by rfl)⟩
           · replace H := zneg c121 H
             have c121a := beq_eq_false_iff_ne.mpr c121
             have c121b := bne_iff_ne.mpr c121
             clear c121
             (try simp only [c121a, c121b, dcn])
             obtain ⟨rfl, rfl⟩ := zsome2 H
             go_wp2_with (first | ((with_reducible refine gate_store (p := 2) rfl ?_); refine ev_store rfl 0 0 HS (seg := [.string (⟨#[]⟩ : ByteArray), .int .i64 0, .int .i64 0, .int .i64 0, .int .i64 0, .slice none 0 0, .string (⟨#[]⟩ : ByteArray)]) rfl rfl rfl rfl rfl rfl (by kernel_rfl) (by simp [wrt]) (by simp [Value.oneCell']) ?_; clear HS; (try clear F); intro w124 HS; (try simp only [hpn, hpm] at HS); have F := HS.boxes; simp only [boxFacts, and_true] at F))
             have HS := HB38 _ _ HS (Nat.le_of_ble_eq_true rfl)
             have HS := HB27 _ _ HS (Nat.le_of_ble_eq_true rfl)
             have HS := HB19 _ _ HS (Nat.le_of_ble_eq_true rfl)
             have HS := HB6 _ _ HS (Nat.le_of_ble_eq_true rfl)
             replace HS := HS.nil 82 q82
             exact bodyPost_ret (results_list (rs := [.cell 2 50, .tmp 3]) rfl (by simp) (.cell _ _ _ _ _ rfl (HS.boxAt (i := 0) rfl) Tryd.underlying50 rfl (by kernel_rfl) (.tmp .nil))) rfl ⟨_, rfl, HS.pick [9] (by decide) (by rfl)⟩
         · replace H := zneg c120 H
           replace c120 := eq_false_of_ne_true c120
           obtain ⟨rfl, rfl⟩ := zsome2 H
           go_wp2_with (first | ((with_reducible refine gate_dst (N := 93) rfl ?_); refine HS.lend [1] (by decide) [.box g24 [.bool x90] 86] rfl (fun A' HL HD HA HB => ?_); refine ev_call rfl Tryd.func54 (by kernel_rfl) rfl #[.pointer (some ⟨g24, 0, none⟩), .agg #[.int .i64 ((rd_T65 y18 1).f0), .string ((rd_T65 y18 1).f1), .slice B110_2 (rd_T65 y18 1).f2.length d110_2], .int .i64 4] rfl (by simp only [List.map_toArray, List.map_cons, List.map_nil]; rfl) ?_; refine (impl_opener_text_0.calls ht111.out y110_2 m110_2 (hV.lend HS HL) HA).mono ?_; rintro _ wt111 ⟨rfl, HQ⟩; refine ⟨_, rfl, ?_⟩; replace HS := HB _ _ HQ (Nat.le_of_ble_eq_true rfl); clear HQ HA HB HL HD; (try simp only [hpn, hpm] at HS); (try clear F); (try simp only [hpn, hpm] at HS); have F := HS.boxes; simp only [boxFacts, and_true] at F) | ((with_reducible refine gate_store (p := 94) rfl ?_); refine ev_store rfl 2 6 HS (seg := [.string t111.1]) rfl rfl rfl rfl rfl rfl (by kernel_rfl) (by simp [wrt]) (by simp [Value.oneCell']) ?_; clear HS; (try clear F); intro w113 HS; (try simp only [hpn, hpm] at HS); have F := HS.boxes; simp only [boxFacts, and_true] at F) | ((with_reducible refine gate_dst (N := 97) rfl ?_); refine ev_call rfl Tryd.func56 (by kernel_rfl) rfl #[.agg #[.string t104001.1, .int .i64 t109001.1, .int .i64 t114001.1, .int .i64 t119001.1, .int .i64 t124001.1, .slice B88 l87.length d88, .string t111.1]] rfl (by simp only [List.map_toArray, List.map_cons, List.map_nil]; rfl) ?_; refine (impl_CrlText.calls ht115.out (HS.rd 3 rfl) m88 (hV.keepc HS hgM)).mono ?_; rintro _ wt115 ⟨rfl, HQ⟩; refine ⟨_, rfl, ?_⟩; replace HS := HS.call HQ; clear HQ; (try clear F); (try simp only [hpn, hpm] at HS); have F := HS.boxes; simp only [boxFacts, and_true] at F; (try simp only [c117]); (try simp only [c120])) | ((with_reducible refine gate_store (p := 2) rfl ?_); refine ev_store rfl 0 0 HS (seg := [.string (⟨#[]⟩ : ByteArray), .int .i64 0, .int .i64 0, .int .i64 0, .int .i64 0, .slice none 0 0, .string (⟨#[]⟩ : ByteArray)]) rfl rfl rfl rfl rfl rfl (by kernel_rfl) (by simp [wrt]) (by simp [Value.oneCell']) ?_; clear HS; (try clear F); intro w126 HS; (try simp only [hpn, hpm] at HS); have F := HS.boxes; simp only [boxFacts, and_true] at F))
           have HS := HB38 _ _ HS (Nat.le_of_ble_eq_true rfl)
           have HS := HB27 _ _ HS (Nat.le_of_ble_eq_true rfl)
           have HS := HB19 _ _ HS (Nat.le_of_ble_eq_true rfl)
           have HS := HB6 _ _ HS (Nat.le_of_ble_eq_true rfl)
           replace HS := HS.nil 82 q82
           exact bodyPost_ret (results_list (rs := [.cell 2 50, .tmp 3]) rfl (by simp) (.cell _ _ _ _ _ rfl (HS.boxAt (i := 0) rfl) Tryd.underlying50 rfl (by kernel_rfl) (.tmp .nil))) rfl ⟨_, rfl, HS.pick [9] (by decide) (by rfl)⟩
 · replace H := zneg c12 H
   replace c12 := eq_false_of_ne_true c12
   (try simp only [c12, dcn])
   obtain ⟨rfl, rfl⟩ := zsome2 H
   go_wp2_with (first | ((with_reducible refine gate_store (p := 2) rfl ?_); refine ev_store rfl 0 0 HS (seg := [.string (⟨#[]⟩ : ByteArray), .int .i64 0, .int .i64 0, .int .i64 0, .int .i64 0, .slice none 0 0, .string (⟨#[]⟩ : ByteArray)]) rfl rfl rfl rfl rfl rfl (by kernel_rfl) (by simp [wrt]) (by simp [Value.oneCell']) ?_; clear HS; (try clear F); intro w128 HS; (try simp only [hpn, hpm] at HS); have F := HS.boxes; simp only [boxFacts, and_true] at F))
   have HS := HB6 _ _ HS (Nat.le_of_ble_eq_true rfl)
   replace HS := HS.nil 82 q82
   exact bodyPost_ret (results_list (rs := [.cell 2 50, .tmp 3]) rfl (by simp) (.cell _ _ _ _ _ rfl (HS.boxAt (i := 0) rfl) Tryd.underlying50 rfl (by kernel_rfl) (.tmp .nil))) rfl ⟨_, rfl, HS.pick [3] (by decide) (by rfl)⟩
end Go.Proofs.YtoaoncnbimcdgaaDoor.F
