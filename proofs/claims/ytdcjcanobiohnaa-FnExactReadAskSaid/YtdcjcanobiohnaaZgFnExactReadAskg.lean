/- Functions of the program and of the law, and that their calls do what is written here. -/
import Derived.Test.YtdcjcanobiohnaaZgFnExactReadAskd
import Derived.Test.YtdcjcanobiohnaaZgFnExactReadAske
import Derived.Test.YtdcjcanobiohnaaZgFnExactReadAskf
namespace Go.Proofs.Ytdcjcanobiohnaa.F
open Go.RowKit Go.Proofs.YtdcjcanobiohnaaW.PrintWords Go.Proofs.YtdcjcanobiohnaaW.PrintLast Go.Proofs.YtdcjcanobiohnaaW.PrintMore Go.Proofs.Ytdcjcanobiohnaa.Z
attribute [local go_sem] max2_int min2_int max_two min_two max_three min_three max_four min_four
set_option linter.unusedVariables false
set_option linter.unusedSimpArgs false
set_option maxRecDepth 100000
/-! ### impl_ReadAsk: function 38 -/
def impl_ReadAsk.f (k : Nat) (a0 : ByteArray) : Option (S67 × Bool) := ((impl_ReadItem.f k a0).bind fun t3 => (if t3.2 = true then ((impl_opener_list_0.f (⟨false⟩ : S133) t3.1 6).bind fun t15 => (if t15.1.1 = true then (if 0 < (t3.1.f2.length : Int) then ((impl_opener_texts_0.f k t15.2 (rd_T107 t3.1.f2 0) 4).bind fun t104001 => (if 1 < (t3.1.f2.length : Int) then ((impl_opener_num_0.f k t104001.2 (rd_T107 t3.1.f2 1)).bind fun t109001 => (if 2 < (t3.1.f2.length : Int) then ((impl_opener_num_0.f k t109001.2 (rd_T107 t3.1.f2 2)).bind fun t114001 => (if 3 < (t3.1.f2.length : Int) then ((impl_opener_num_0.f k t114001.2 (rd_T107 t3.1.f2 3)).bind fun t119001 => (if 4 < (t3.1.f2.length : Int) then ((impl_opener_num_0.f k t119001.2 (rd_T107 t3.1.f2 4)).bind fun t124001 => (if 5 < (t3.1.f2.length : Int) then ((impl_opener_flag_0.f t124001.2 (rd_T107 t3.1.f2 5)).bind fun t129001 => ((impl_AskText.f k (⟨t104001.1, t109001.1, t114001.1, t119001.1, t124001.1, t129001.1⟩ : S67)).bind fun t24 => (if t129001.2.f0 = true then (some ((⟨([] : List ByteArray), 0, 0, 0, 0, false⟩ : S67), false)) else (if t24.2 = true then (if t24.1.toList = a0.toList then (some ((⟨t104001.1, t109001.1, t114001.1, t119001.1, t124001.1, t129001.1⟩ : S67), true)) else (some ((⟨([] : List ByteArray), 0, 0, 0, 0, false⟩ : S67), false))) else (some ((⟨([] : List ByteArray), 0, 0, 0, 0, false⟩ : S67), false)))))) else none)) else none)) else none)) else none)) else none)) else none) else (if 0 < (t15.1.2 : Int) then ((impl_opener_texts_0.f k t15.2 (⟨0, (⟨#[]⟩ : ByteArray), ([] : List S107)⟩ : S107) 4).bind fun t204001 => (if 1 < (t15.1.2 : Int) then ((impl_opener_num_0.f k t204001.2 (⟨0, (⟨#[]⟩ : ByteArray), ([] : List S107)⟩ : S107)).bind fun t209001 => (if 2 < (t15.1.2 : Int) then ((impl_opener_num_0.f k t209001.2 (⟨0, (⟨#[]⟩ : ByteArray), ([] : List S107)⟩ : S107)).bind fun t214001 => (if 3 < (t15.1.2 : Int) then ((impl_opener_num_0.f k t214001.2 (⟨0, (⟨#[]⟩ : ByteArray), ([] : List S107)⟩ : S107)).bind fun t219001 => (if 4 < (t15.1.2 : Int) then ((impl_opener_num_0.f k t219001.2 (⟨0, (⟨#[]⟩ : ByteArray), ([] : List S107)⟩ : S107)).bind fun t224001 => (if 5 < (t15.1.2 : Int) then ((impl_opener_flag_0.f t224001.2 (⟨0, (⟨#[]⟩ : ByteArray), ([] : List S107)⟩ : S107)).bind fun t229001 => ((impl_AskText.f k (⟨t204001.1, t209001.1, t214001.1, t219001.1, t224001.1, t229001.1⟩ : S67)).bind fun t42 => (if t229001.2.f0 = true then (some ((⟨([] : List ByteArray), 0, 0, 0, 0, false⟩ : S67), false)) else (if t42.2 = true then (if t42.1.toList = a0.toList then (some ((⟨t204001.1, t209001.1, t214001.1, t219001.1, t224001.1, t229001.1⟩ : S67), true)) else (some ((⟨([] : List ByteArray), 0, 0, 0, 0, false⟩ : S67), false))) else (some ((⟨([] : List ByteArray), 0, 0, 0, 0, false⟩ : S67), false)))))) else none)) else none)) else none)) else none)) else none)) else none))) else (some ((⟨([] : List ByteArray), 0, 0, 0, 0, false⟩ : S67), false))))
def impl_ReadAsk.T6 : Bool × List (List Nat × List Nat) := (true, [([], []), ([], []), ([1], [1]), ([2], [2]), ([0, 3], [0, 3]), ([], []), ([], []), ([6], [6]), ([7], [7]), ([5, 8, 4], [5, 8]), ([], []), ([], []), ([11], [11]), ([12], [12]), ([10, 13, 9], [10, 13]), ([], []), ([], []), ([16], [16]), ([17], [17]), ([15, 18, 14], [15, 18]), ([], []), ([], []), ([21], [21]), ([22], [22]), ([20, 23, 19], [20, 23]), ([], []), ([], []), ([26], [26]), ([27], [27]), ([25, 28, 24], [25, 28]), ([4, 9, 14, 19, 24, 29], [4, 9, 14, 19, 24, 29]), ([], []), ([31, 30, 29, 0, 1, 2, 3, 4, 5, 6, 7, 8, 9, 10, 11, 12, 13, 14, 15, 16, 17, 18, 19, 20, 21, 22, 23, 24, 25, 26, 27, 28, 29, 30, 31], [30, 31])])
theorem impl_ReadAsk.tT6 : rtab .any (opsOf Try.f38 6) = impl_ReadAsk.T6 := by kernel_rfl
set_option maxHeartbeats 16000000 in
theorem impl_ReadAsk.calls {k : Nat} {a0 : ByteArray} {r1 : S67} {r2 : Bool} {w : World} (h : impl_ReadAsk.f k a0 = some (r1, r2)) :
    Calls Try.prog 38 #[.string a0] w (fun e w' => ∃ v0_ : Value, e = .returned (.tuple #[.agg #[v0_, .int .i64 r1.f1, .int .i64 r1.f2, .int .i64 r1.f3, .int .i64 r1.f4, .bool r1.f5], .bool r2]) ∧ Hp noFP w w' [.own (Zd.slice 9 Zd.string) r1.f0 [v0_]]) := by
 have HS := Hp.start w
 have H := Aside0.mk h
 clear h
 unfold impl_ReadAsk.f at H
 go_enter Try.func38, Try.ntmps38
 replace H := zbind H; obtain ⟨t3, ht3, H⟩ := H
 go_upto_if 17 with (first | ((with_reducible refine gate_dst (N := 2) rfl ?_); refine ev_box rfl HS (by first | (go_simp; done) | (go_simp; rfl)) rfl ?_; clear HS; (try clear F); intro g2 w2 HS; replace HS : Hp noFP w _ [.box g2 [.slice none 0 0, .int .i64 0, .int .i64 0, .int .i64 0, .int .i64 0, .bool false] 67] := HS; have F := HS.boxes; simp only [boxFacts, and_true] at F) | ((with_reducible refine gate_dst (N := 13) rfl ?_); refine ev_call rfl Try.func90 (by kernel_rfl) rfl #[.string a0] rfl (by simp only [List.map_toArray, List.map_cons, List.map_nil]; rfl) ?_; refine (impl_ReadItem.calls ht3.out).mono ?_; rintro _ wt3 ⟨v4, rfl, HQ⟩; refine ⟨_, rfl, ?_⟩; replace HS := HS.call HQ; clear HQ; (try clear F); obtain ⟨B4, d4, rfl, m4⟩ := HS.form 1 rfl; replace HS : Hp noFP w _ [.box g2 [.slice none 0 0, .int .i64 0, .int .i64 0, .int .i64 0, .int .i64 0, .bool false] 67, .own (Zd.slice 107 q107) t3.1.f2 [.slice B4 t3.1.f2.length d4]] := HS; have F := HS.boxes; simp only [boxFacts, and_true] at F; refine HS.lend [0] (by decide) [.box g2 [.slice none 0 0, .int .i64 0, .int .i64 0, .int .i64 0, .int .i64 0, .bool false] 67] rfl (fun A6 HL HD HA HB6 => ?_); have gb6_0 := hide_rd HD 1 rfl (by decide); replace HS := HA; have hV := hide_view A6 wt3; clear HA HD HL; (try clear F); replace HS : Hp A6 wt3 _ [.box g2 [.slice none 0 0, .int .i64 0, .int .i64 0, .int .i64 0, .int .i64 0, .bool false] 67] := HS; have F := HS.boxes; simp only [boxFacts, and_true] at F) | ((with_reducible refine gate_dst (N := 4) rfl ?_); refine ev_box rfl HS (by first | (go_simp; done) | (go_simp; rfl)) rfl ?_; clear HS; (try clear F); intro g4 w4 HS; replace HS : Hp A6 wt3 _ [.box g2 [.slice none 0 0, .int .i64 0, .int .i64 0, .int .i64 0, .int .i64 0, .bool false] 67, .box g4 [.int .i64 0, .string (⟨#[]⟩ : ByteArray), .slice none 0 0] 107] := HS; have F := HS.boxes; simp only [boxFacts, and_true] at F) | ((with_reducible refine gate_store (p := 4) rfl ?_); refine ev_store rfl 1 0 HS (seg := [.int .i64 t3.1.f0, .string t3.1.f1, .slice B4 t3.1.f2.length d4]) rfl rfl rfl rfl rfl rfl (by kernel_rfl) (by simp [wrt]) (by simp [Value.oneCell']) ?_; clear HS; (try clear F); intro w10 HS; replace HS : Hp A6 wt3 _ [.box g2 [.slice none 0 0, .int .i64 0, .int .i64 0, .int .i64 0, .int .i64 0, .bool false] 67, .box g4 [.int .i64 t3.1.f0, .string t3.1.f1, .slice B4 t3.1.f2.length d4] 107] := HS; have F := HS.boxes; simp only [boxFacts, and_true] at F))
 by_cases c12 : t3.2 = true
 · replace H := zpos c12 H
   (try simp only [c12, decide_true, decide_false, Bool.not_true, Bool.not_false])
   replace H := zbind H; obtain ⟨t15, ht15, H⟩ := H
   by_cases c18 : t15.1.1 = true
   · replace H := zpos c18 H
     go_wp2_with (first | ((with_reducible refine gate_dst (N := 20) rfl ?_); refine ev_box rfl HS (by first | (go_simp; done) | (go_simp; rfl)) rfl ?_; clear HS; (try clear F); intro g20 w20 HS; replace HS : Hp A6 wt3 _ [.box g2 [.slice none 0 0, .int .i64 0, .int .i64 0, .int .i64 0, .int .i64 0, .bool false] 67, .box g4 [.int .i64 t3.1.f0, .string t3.1.f1, .slice B4 t3.1.f2.length d4] 107, .box g20 [.bool false] 133] := HS; have F := HS.boxes; simp only [boxFacts, and_true] at F) | ((with_reducible refine gate_dst (N := 23) rfl ?_); refine HS.lend [2] (by decide) [.box g20 [.bool false] 133] rfl (fun A' HL HD HA HB => ?_); refine ev_call rfl Try.func91 (by kernel_rfl) rfl #[.pointer (some ⟨g20, 0, none⟩), .agg #[.int .i64 t3.1.f0, .string t3.1.f1, .slice B4 t3.1.f2.length d4], .int .i64 6] rfl (by simp only [List.map_toArray, List.map_cons, List.map_nil]; rfl) ?_; refine (impl_opener_list_0.calls ht15.out gb6_0 m4 (hV.lend HS HL) HA).mono ?_; rintro _ wt15 ⟨v16, rfl, HQ⟩; refine ⟨_, rfl, ?_⟩; replace HS : Hp A6 wt3 _ [.box g2 [.slice none 0 0, .int .i64 0, .int .i64 0, .int .i64 0, .int .i64 0, .bool false] 67, .box g4 [.int .i64 t3.1.f0, .string t3.1.f1, .slice B4 t3.1.f2.length d4] 107, .box g20 [.bool t15.2.f0] 133, .own (Zd.slice 107 q107) (List.replicate t15.1.2 z107) [v16]] := HB _ _ HQ (Nat.le_of_ble_eq_true rfl); clear HQ HA HB HL HD; (try clear F); obtain ⟨B16, d16, rfl, m16⟩ := HS.formn t15.1.2 3 rfl (by first | rfl | simp); (try simp only [cond_true, cond_false]); (try simp only [c18, cond_true, cond_false]); replace HS : Hp A6 wt3 _ [.box g2 [.slice none 0 0, .int .i64 0, .int .i64 0, .int .i64 0, .int .i64 0, .bool false] 67, .box g4 [.int .i64 t3.1.f0, .string t3.1.f1, .slice B4 t3.1.f2.length d4] 107, .box g20 [.bool t15.2.f0] 133, .own (Zd.slice 107 q107) (List.replicate t15.1.2 z107) [.slice B16 t15.1.2 d16]] := HS; have F := HS.boxes; simp only [boxFacts, and_true] at F; refine HS.lend [0, 2] (by decide) [.box g2 [.slice none 0 0, .int .i64 0, .int .i64 0, .int .i64 0, .int .i64 0, .bool false] 67, .box g20 [.bool t15.2.f0] 133] rfl (fun A19 HL HD HA HB19 => ?_); have gb19_0 := hV.hideC km107 HS HL gb6_0; have zg4_b19_0 := hide_box HD 1 rfl (by decide) (j := 0) rfl; have zg4_b19_1 := hide_box HD 1 rfl (by decide) (j := 1) rfl; have zg4_b19_2 := hide_box HD 1 rfl (by decide) (j := 2) rfl; replace HS := HA; replace hV := hide_view A19 wt15; clear HA HD HL; (try clear F); replace HS : Hp A19 wt15 _ [.box g2 [.slice none 0 0, .int .i64 0, .int .i64 0, .int .i64 0, .int .i64 0, .bool false] 67, .box g20 [.bool t15.2.f0] 133] := HS; have F := HS.boxes; simp only [boxFacts, and_true] at F))
     by_cases c102001 : 0 < (t3.1.f2.length : Int)
     case neg => exact zno c102001 H
     replace H := zpos c102001 H
     replace c102001 := eq_true c102001
     have c102001n : (0 < t3.1.f2.length) = True := eq_true (by have := of_eq_true c102001; omega)
     obtain ⟨ad102999, B102999_2, d102999_2, rfl, e102999_0, e102999_1, e102999_2, m102999_2, y102999_2⟩ := at_T107 gb19_0 0 (of_eq_true (eq_true (by decide))) (of_eq_true c102001); (try (have e102999_0' := e102999_0; simp only [Int.toNat_zero, Int.reduceToNat, Int.toNat_natCast, Nat.zero_mul, Nat.one_mul, Nat.zero_add, Nat.add_zero, Addr.add_zero', Addr.add_succ', Nat.reduceMul, Nat.reduceAdd] at e102999_0')); (try (have e102999_1' := e102999_1; simp only [Int.toNat_zero, Int.reduceToNat, Int.toNat_natCast, Nat.zero_mul, Nat.one_mul, Nat.zero_add, Nat.add_zero, Addr.add_zero', Addr.add_succ', Nat.reduceMul, Nat.reduceAdd] at e102999_1')); (try (have e102999_2' := e102999_2; simp only [Int.toNat_zero, Int.reduceToNat, Int.toNat_natCast, Nat.zero_mul, Nat.one_mul, Nat.zero_add, Nat.add_zero, Addr.add_zero', Addr.add_succ', Nat.reduceMul, Nat.reduceAdd] at e102999_2'))
     replace H := zbind H; obtain ⟨t104001, ht104001, H⟩ := H
     by_cases c107001 : 1 < (t3.1.f2.length : Int)
     case neg => exact zno c107001 H
     replace H := zpos c107001 H
     replace c107001 := eq_true c107001
     have c107001n : (1 < t3.1.f2.length) = True := eq_true (by have := of_eq_true c107001; omega)
     obtain ⟨ad107999, B107999_2, d107999_2, hq107999, e107999_0, e107999_1, e107999_2, m107999_2, y107999_2⟩ := at_T107 gb19_0 1 (of_eq_true (eq_true (by decide))) (of_eq_true c107001); obtain rfl := Option.some.inj hq107999; (try (have e107999_0' := e107999_0; simp only [Int.toNat_zero, Int.reduceToNat, Int.toNat_natCast, Nat.zero_mul, Nat.one_mul, Nat.zero_add, Nat.add_zero, Addr.add_zero', Addr.add_succ', Nat.reduceMul, Nat.reduceAdd] at e107999_0')); (try (have e107999_1' := e107999_1; simp only [Int.toNat_zero, Int.reduceToNat, Int.toNat_natCast, Nat.zero_mul, Nat.one_mul, Nat.zero_add, Nat.add_zero, Addr.add_zero', Addr.add_succ', Nat.reduceMul, Nat.reduceAdd] at e107999_1')); (try (have e107999_2' := e107999_2; simp only [Int.toNat_zero, Int.reduceToNat, Int.toNat_natCast, Nat.zero_mul, Nat.one_mul, Nat.zero_add, Nat.add_zero, Addr.add_zero', Addr.add_succ', Nat.reduceMul, Nat.reduceAdd] at e107999_2'))
     replace H := zbind H; obtain ⟨t109001, ht109001, H⟩ := H
     by_cases c112001 : 2 < (t3.1.f2.length : Int)
     case neg => exact zno c112001 H
     replace H := zpos c112001 H
     replace c112001 := eq_true c112001
     have c112001n : (2 < t3.1.f2.length) = True := eq_true (by have := of_eq_true c112001; omega)
     obtain ⟨ad112999, B112999_2, d112999_2, hq112999, e112999_0, e112999_1, e112999_2, m112999_2, y112999_2⟩ := at_T107 gb19_0 2 (of_eq_true (eq_true (by decide))) (of_eq_true c112001); obtain rfl := Option.some.inj hq112999; (try (have e112999_0' := e112999_0; simp only [Int.toNat_zero, Int.reduceToNat, Int.toNat_natCast, Nat.zero_mul, Nat.one_mul, Nat.zero_add, Nat.add_zero, Addr.add_zero', Addr.add_succ', Nat.reduceMul, Nat.reduceAdd] at e112999_0')); (try (have e112999_1' := e112999_1; simp only [Int.toNat_zero, Int.reduceToNat, Int.toNat_natCast, Nat.zero_mul, Nat.one_mul, Nat.zero_add, Nat.add_zero, Addr.add_zero', Addr.add_succ', Nat.reduceMul, Nat.reduceAdd] at e112999_1')); (try (have e112999_2' := e112999_2; simp only [Int.toNat_zero, Int.reduceToNat, Int.toNat_natCast, Nat.zero_mul, Nat.one_mul, Nat.zero_add, Nat.add_zero, Addr.add_zero', Addr.add_succ', Nat.reduceMul, Nat.reduceAdd] at e112999_2'))
     replace H := zbind H; obtain ⟨t114001, ht114001, H⟩ := H
     by_cases c117001 : 3 < (t3.1.f2.length : Int)
     case neg => exact zno c117001 H
     replace H := zpos c117001 H
     replace c117001 := eq_true c117001
     have c117001n : (3 < t3.1.f2.length) = True := eq_true (by have := of_eq_true c117001; omega)
     obtain ⟨ad117999, B117999_2, d117999_2, hq117999, e117999_0, e117999_1, e117999_2, m117999_2, y117999_2⟩ := at_T107 gb19_0 3 (of_eq_true (eq_true (by decide))) (of_eq_true c117001); obtain rfl := Option.some.inj hq117999; (try (have e117999_0' := e117999_0; simp only [Int.toNat_zero, Int.reduceToNat, Int.toNat_natCast, Nat.zero_mul, Nat.one_mul, Nat.zero_add, Nat.add_zero, Addr.add_zero', Addr.add_succ', Nat.reduceMul, Nat.reduceAdd] at e117999_0')); (try (have e117999_1' := e117999_1; simp only [Int.toNat_zero, Int.reduceToNat, Int.toNat_natCast, Nat.zero_mul, Nat.one_mul, Nat.zero_add, Nat.add_zero, Addr.add_zero', Addr.add_succ', Nat.reduceMul, Nat.reduceAdd] at e117999_1')); (try (have e117999_2' := e117999_2; simp only [Int.toNat_zero, Int.reduceToNat, Int.toNat_natCast, Nat.zero_mul, Nat.one_mul, Nat.zero_add, Nat.add_zero, Addr.add_zero', Addr.add_succ', Nat.reduceMul, Nat.reduceAdd] at e117999_2'))
     replace H := zbind H; obtain ⟨t119001, ht119001, H⟩ := H
     by_cases c122001 : 4 < (t3.1.f2.length : Int)
     case neg => exact zno c122001 H
     replace H := zpos c122001 H
     replace c122001 := eq_true c122001
     have c122001n : (4 < t3.1.f2.length) = True := eq_true (by have := of_eq_true c122001; omega)
     obtain ⟨ad122999, B122999_2, d122999_2, hq122999, e122999_0, e122999_1, e122999_2, m122999_2, y122999_2⟩ := at_T107 gb19_0 4 (of_eq_true (eq_true (by decide))) (of_eq_true c122001); obtain rfl := Option.some.inj hq122999; (try (have e122999_0' := e122999_0; simp only [Int.toNat_zero, Int.reduceToNat, Int.toNat_natCast, Nat.zero_mul, Nat.one_mul, Nat.zero_add, Nat.add_zero, Addr.add_zero', Addr.add_succ', Nat.reduceMul, Nat.reduceAdd] at e122999_0')); (try (have e122999_1' := e122999_1; simp only [Int.toNat_zero, Int.reduceToNat, Int.toNat_natCast, Nat.zero_mul, Nat.one_mul, Nat.zero_add, Nat.add_zero, Addr.add_zero', Addr.add_succ', Nat.reduceMul, Nat.reduceAdd] at e122999_1')); (try (have e122999_2' := e122999_2; simp only [Int.toNat_zero, Int.reduceToNat, Int.toNat_natCast, Nat.zero_mul, Nat.one_mul, Nat.zero_add, Nat.add_zero, Addr.add_zero', Addr.add_succ', Nat.reduceMul, Nat.reduceAdd] at e122999_2'))
     replace H := zbind H; obtain ⟨t124001, ht124001, H⟩ := H
     by_cases c127001 : 5 < (t3.1.f2.length : Int)
     case neg => exact zno c127001 H
     replace H := zpos c127001 H
     replace c127001 := eq_true c127001
     have c127001n : (5 < t3.1.f2.length) = True := eq_true (by have := of_eq_true c127001; omega)
     obtain ⟨ad127999, B127999_2, d127999_2, hq127999, e127999_0, e127999_1, e127999_2, m127999_2, y127999_2⟩ := at_T107 gb19_0 5 (of_eq_true (eq_true (by decide))) (of_eq_true c127001); obtain rfl := Option.some.inj hq127999; (try (have e127999_0' := e127999_0; simp only [Int.toNat_zero, Int.reduceToNat, Int.toNat_natCast, Nat.zero_mul, Nat.one_mul, Nat.zero_add, Nat.add_zero, Addr.add_zero', Addr.add_succ', Nat.reduceMul, Nat.reduceAdd] at e127999_0')); (try (have e127999_1' := e127999_1; simp only [Int.toNat_zero, Int.reduceToNat, Int.toNat_natCast, Nat.zero_mul, Nat.one_mul, Nat.zero_add, Nat.add_zero, Addr.add_zero', Addr.add_succ', Nat.reduceMul, Nat.reduceAdd] at e127999_1')); (try (have e127999_2' := e127999_2; simp only [Int.toNat_zero, Int.reduceToNat, Int.toNat_natCast, Nat.zero_mul, Nat.one_mul, Nat.zero_add, Nat.add_zero, Addr.add_zero', Addr.add_succ', Nat.reduceMul, Nat.reduceAdd] at e127999_2'))
     replace H := zbind H; obtain ⟨t129001, ht129001, H⟩ := H
     refine dr_start2 [.box g2 [.slice none 0 0, .int .i64 0, .int .i64 0, .int .i64 0, .int .i64 0, .bool false] 67, .emp] [32] HS (HS.arr [some 0, none] (by decide)) #[false, false, false, false, false, false, false, false, false, false, false, false, false, false, false, false, false, false, false, false, false, false, false, false, false, false, false, false, false, false, false, false, false] (by kernel_rfl) rfl rfl impl_ReadAsk.tT6 (fun w22 HT HS HH => ?_)
     (try clear F)
     refine join_ 0 #[true, true, true, true, true, true, true, true, true, true, true, true, true, true, true, true, true, true, true, true, true, true, true, true, true, true, true, true, true, true, true, true, true] (fun ((v104002, g8, pe26, pe27, pe31, pe32, pe36, pe37, pe41, pe42, pe46, pe47, pe51, pe52) : Value × Nat × Value × Value × Value × Value × Value × Value × Value × Value × Value × Value × Value × Value) => ([(24, .pointer (some ⟨g20, 0, none⟩)), (25, .slice (some ad102999) t3.1.f2.length d4), (26, pe26), (27, pe27), (28, v104002), (29, .pointer (some ⟨g20, 0, none⟩)), (30, .slice (some ad102999) t3.1.f2.length d4), (31, pe31), (32, pe32), (33, .int .i64 t109001.1), (34, .pointer (some ⟨g20, 0, none⟩)), (35, .slice (some ad102999) t3.1.f2.length d4), (36, pe36), (37, pe37), (38, .int .i64 t114001.1), (39, .pointer (some ⟨g20, 0, none⟩)), (40, .slice (some ad102999) t3.1.f2.length d4), (41, pe41), (42, pe42), (43, .int .i64 t119001.1), (44, .pointer (some ⟨g20, 0, none⟩)), (45, .slice (some ad102999) t3.1.f2.length d4), (46, pe46), (47, pe47), (48, .int .i64 t124001.1), (49, .pointer (some ⟨g20, 0, none⟩)), (50, .slice (some ad102999) t3.1.f2.length d4), (51, pe51), (52, pe52), (53, .bool t129001.1), (54, .agg #[v104002, .int .i64 t109001.1, .int .i64 t114001.1, .int .i64 t119001.1, .int .i64 t124001.1, .bool t129001.1]), (8, .pointer (some ⟨g8, 0, none⟩))] : List (Tmp × Value))) (fun ((v104002, g8, pe26, pe27, pe31, pe32, pe36, pe37, pe41, pe42, pe46, pe47, pe51, pe52) : Value × Nat × Value × Value × Value × Value × Value × Value × Value × Value × Value × Value × Value × Value) w' => Hp A19 wt15 w' [.box g2 [.slice none 0 0, .int .i64 0, .int .i64 0, .int .i64 0, .int .i64 0, .bool false] 67, .box g20 [.bool t129001.2.f0] 133, .own (Zd.slice 9 Zd.string) t104001.1 [v104002], .box g8 [v104002, .int .i64 t109001.1, .int .i64 t114001.1, .int .i64 t119001.1, .int .i64 t124001.1, .bool t129001.1] 67]) ?_ ?_
     rotate_left
     · intro hJ
       refine drq_of [(0, some 24), (1, some 25), (2, some 26)] ?_
       repeat (first | (refine drq_pure HT (v := ?_) (a' := ?_) rfl rfl (by kernel_rfl) (fun _ _ _ h => h) (.inl ⟨by rfl, ?_⟩) ?_ ?_; rotate_left; (intro w'; go_simp; with_reducible rfl); rotate_left; (simp only [Act.put, List.setIfInBounds_toArray, List.set_cons_zero, List.set_cons_succ, i64_w, i32_w]; rfl)))
       refine drq_end ?_
       refine dr_take 3 (some 27) HT HH (v := ?_) (a' := ?_) rfl rfl (by kernel_rfl) (fun _ _ _ h => h) (.inl ⟨by rfl, ?_⟩) ?_ ?_
       rotate_left
       · rintro w' ⟨rs', HS'⟩; have e102999_0 := (hV.keepc HS' e102999_0); have e102999_1 := (hV.keepc HS' e102999_1); have e102999_2 := (hV.keepc HS' e102999_2); (try simp only [Int.toNat_zero, Int.reduceToNat, Int.toNat_natCast, Nat.zero_mul, Nat.one_mul, Nat.zero_add, Nat.add_zero, Addr.add_zero', Addr.add_succ', Nat.reduceMul, Nat.reduceAdd] at e102999_0 e102999_1 e102999_2); go_simp; with_reducible rfl
       rotate_left
       · simp only [Act.put, List.setIfInBounds_toArray, List.set_cons_zero, List.set_cons_succ, i64_w, i32_w]; rfl
       refine drq_of [(5, some 29), (6, some 30), (7, some 31)] ?_
       repeat (first | (refine drq_pure HT (v := ?_) (a' := ?_) rfl rfl (by kernel_rfl) (fun _ _ _ h => h) (.inl ⟨by rfl, ?_⟩) ?_ ?_; rotate_left; (intro w'; go_simp; with_reducible rfl); rotate_left; (simp only [Act.put, List.setIfInBounds_toArray, List.set_cons_zero, List.set_cons_succ, i64_w, i32_w]; rfl)))
       refine drq_end ?_
       refine dr_take 8 (some 32) HT HH (v := ?_) (a' := ?_) rfl rfl (by kernel_rfl) (fun _ _ _ h => h) (.inl ⟨by rfl, ?_⟩) ?_ ?_
       rotate_left
       · rintro w' ⟨rs', HS'⟩; have e107999_0 := (hV.keepc HS' e107999_0); have e107999_1 := (hV.keepc HS' e107999_1); have e107999_2 := (hV.keepc HS' e107999_2); (try simp only [Int.toNat_zero, Int.reduceToNat, Int.toNat_natCast, Nat.zero_mul, Nat.one_mul, Nat.zero_add, Nat.add_zero, Addr.add_zero', Addr.add_succ', Nat.reduceMul, Nat.reduceAdd] at e107999_0 e107999_1 e107999_2); go_simp; with_reducible rfl
       rotate_left
       · simp only [Act.put, List.setIfInBounds_toArray, List.set_cons_zero, List.set_cons_succ, i64_w, i32_w]; rfl
       refine drq_of [(10, some 34), (11, some 35), (12, some 36)] ?_
       repeat (first | (refine drq_pure HT (v := ?_) (a' := ?_) rfl rfl (by kernel_rfl) (fun _ _ _ h => h) (.inl ⟨by rfl, ?_⟩) ?_ ?_; rotate_left; (intro w'; go_simp; with_reducible rfl); rotate_left; (simp only [Act.put, List.setIfInBounds_toArray, List.set_cons_zero, List.set_cons_succ, i64_w, i32_w]; rfl)))
       refine drq_end ?_
       refine dr_take 13 (some 37) HT HH (v := ?_) (a' := ?_) rfl rfl (by kernel_rfl) (fun _ _ _ h => h) (.inl ⟨by rfl, ?_⟩) ?_ ?_
       rotate_left
       · rintro w' ⟨rs', HS'⟩; have e112999_0 := (hV.keepc HS' e112999_0); have e112999_1 := (hV.keepc HS' e112999_1); have e112999_2 := (hV.keepc HS' e112999_2); (try simp only [Int.toNat_zero, Int.reduceToNat, Int.toNat_natCast, Nat.zero_mul, Nat.one_mul, Nat.zero_add, Nat.add_zero, Addr.add_zero', Addr.add_succ', Nat.reduceMul, Nat.reduceAdd] at e112999_0 e112999_1 e112999_2); go_simp; with_reducible rfl
       rotate_left
       · simp only [Act.put, List.setIfInBounds_toArray, List.set_cons_zero, List.set_cons_succ, i64_w, i32_w]; rfl
       refine drq_of [(15, some 39), (16, some 40), (17, some 41)] ?_
       repeat (first | (refine drq_pure HT (v := ?_) (a' := ?_) rfl rfl (by kernel_rfl) (fun _ _ _ h => h) (.inl ⟨by rfl, ?_⟩) ?_ ?_; rotate_left; (intro w'; go_simp; with_reducible rfl); rotate_left; (simp only [Act.put, List.setIfInBounds_toArray, List.set_cons_zero, List.set_cons_succ, i64_w, i32_w]; rfl)))
       refine drq_end ?_
       refine dr_take 18 (some 42) HT HH (v := ?_) (a' := ?_) rfl rfl (by kernel_rfl) (fun _ _ _ h => h) (.inl ⟨by rfl, ?_⟩) ?_ ?_
       rotate_left
       · rintro w' ⟨rs', HS'⟩; have e117999_0 := (hV.keepc HS' e117999_0); have e117999_1 := (hV.keepc HS' e117999_1); have e117999_2 := (hV.keepc HS' e117999_2); (try simp only [Int.toNat_zero, Int.reduceToNat, Int.toNat_natCast, Nat.zero_mul, Nat.one_mul, Nat.zero_add, Nat.add_zero, Addr.add_zero', Addr.add_succ', Nat.reduceMul, Nat.reduceAdd] at e117999_0 e117999_1 e117999_2); go_simp; with_reducible rfl
       rotate_left
       · simp only [Act.put, List.setIfInBounds_toArray, List.set_cons_zero, List.set_cons_succ, i64_w, i32_w]; rfl
       refine drq_of [(20, some 44), (21, some 45), (22, some 46)] ?_
       repeat (first | (refine drq_pure HT (v := ?_) (a' := ?_) rfl rfl (by kernel_rfl) (fun _ _ _ h => h) (.inl ⟨by rfl, ?_⟩) ?_ ?_; rotate_left; (intro w'; go_simp; with_reducible rfl); rotate_left; (simp only [Act.put, List.setIfInBounds_toArray, List.set_cons_zero, List.set_cons_succ, i64_w, i32_w]; rfl)))
       refine drq_end ?_
       refine dr_take 23 (some 47) HT HH (v := ?_) (a' := ?_) rfl rfl (by kernel_rfl) (fun _ _ _ h => h) (.inl ⟨by rfl, ?_⟩) ?_ ?_
       rotate_left
       · rintro w' ⟨rs', HS'⟩; have e122999_0 := (hV.keepc HS' e122999_0); have e122999_1 := (hV.keepc HS' e122999_1); have e122999_2 := (hV.keepc HS' e122999_2); (try simp only [Int.toNat_zero, Int.reduceToNat, Int.toNat_natCast, Nat.zero_mul, Nat.one_mul, Nat.zero_add, Nat.add_zero, Addr.add_zero', Addr.add_succ', Nat.reduceMul, Nat.reduceAdd] at e122999_0 e122999_1 e122999_2); go_simp; with_reducible rfl
       rotate_left
       · simp only [Act.put, List.setIfInBounds_toArray, List.set_cons_zero, List.set_cons_succ, i64_w, i32_w]; rfl
       refine drq_of [(25, some 49), (26, some 50), (27, some 51)] ?_
       repeat (first | (refine drq_pure HT (v := ?_) (a' := ?_) rfl rfl (by kernel_rfl) (fun _ _ _ h => h) (.inl ⟨by rfl, ?_⟩) ?_ ?_; rotate_left; (intro w'; go_simp; with_reducible rfl); rotate_left; (simp only [Act.put, List.setIfInBounds_toArray, List.set_cons_zero, List.set_cons_succ, i64_w, i32_w]; rfl)))
       refine drq_end ?_
       refine dr_take 28 (some 52) HT HH (v := ?_) (a' := ?_) rfl rfl (by kernel_rfl) (fun _ _ _ h => h) (.inl ⟨by rfl, ?_⟩) ?_ ?_
       rotate_left
       · rintro w' ⟨rs', HS'⟩; have e127999_0 := (hV.keepc HS' e127999_0); have e127999_1 := (hV.keepc HS' e127999_1); have e127999_2 := (hV.keepc HS' e127999_2); (try simp only [Int.toNat_zero, Int.reduceToNat, Int.toNat_natCast, Nat.zero_mul, Nat.one_mul, Nat.zero_add, Nat.add_zero, Addr.add_zero', Addr.add_succ', Nat.reduceMul, Nat.reduceAdd] at e127999_0 e127999_1 e127999_2); go_simp; with_reducible rfl
       rotate_left
       · simp only [Act.put, List.setIfInBounds_toArray, List.set_cons_zero, List.set_cons_succ, i64_w, i32_w]; rfl
       refine dr_any [4, 31] HT (by kernel_rfl) (by decide) (AllReadyL.cons rfl (by decide) (fun K hK => ?_) (AllReadyL.cons rfl (by decide) (fun K hK => ?_) AllReadyL.nil))
       · refine HS.lend [1] (by decide) [.box g20 [.bool t15.2.f0] 133] rfl (fun A' HL HD HA HB => ?_); refine goes_ Try.func92 (by kernel_rfl) rfl #[.pointer (some ⟨g20, 0, none⟩), .agg #[.int .i64 ((rd_T107 t3.1.f2 0).f0), .string ((rd_T107 t3.1.f2 0).f1), .slice B102999_2 (rd_T107 t3.1.f2 0).f2.length d102999_2], .int .i64 4] (by rfl) rfl rfl (by simp only [List.map_toArray, List.map_cons, List.map_nil]; rfl) ?_; refine (impl_opener_texts_0.calls ht104001.out y102999_2 m102999_2 (hV.lend HS HL) HA).mono ?_; rintro _ wt104001 ⟨v104002, rfl, HQ⟩; refine ⟨_, rfl, ?_⟩; replace HS : Hp A19 wt15 _ [.box g2 [.slice none 0 0, .int .i64 0, .int .i64 0, .int .i64 0, .int .i64 0, .bool false] 67, .box g20 [.bool t104001.2.f0] 133, .own (Zd.slice 9 Zd.string) t104001.1 [v104002]] := HB _ _ HQ (Nat.le_of_ble_eq_true rfl); clear HQ HA HB HL HD; (try clear F); obtain ⟨B104002, d104002, rfl, m104002⟩ := HS.form 2 rfl
         replace HS : Hp A19 wt15 _ [.box g2 [.slice none 0 0, .int .i64 0, .int .i64 0, .int .i64 0, .int .i64 0, .bool false] 67, .box g20 [.bool t104001.2.f0] 133, .own (Zd.slice 9 Zd.string) t104001.1 [.slice B104002 t104001.1.length d104002]] := HS
         have F := HS.boxes; simp only [boxFacts, and_true] at F
         refine hK.out _ _ ⟨[], HS.arr [some 0, none] (by decide)⟩ (fun HH => ?_)
         clear hK K
         refine norm_ (a' := ?_) ?_ ?_
         rotate_left
         · show Act.put _ (some 28) _ = _; simp only [Act.put, List.setIfInBounds_toArray, List.set_cons_zero, List.set_cons_succ, i64_w, i32_w, c12, c18]; rfl
         refine dr_any [9, 31] HT (by kernel_rfl) (by decide) (AllReadyL.cons rfl (by decide) (fun K hK => ?_) (AllReadyL.cons rfl (by decide) (fun K hK => ?_) AllReadyL.nil))
         · refine HS.lend [1] (by decide) [.box g20 [.bool t104001.2.f0] 133] rfl (fun A' HL HD HA HB => ?_); refine goes_ Try.func93 (by kernel_rfl) rfl #[.pointer (some ⟨g20, 0, none⟩), .agg #[.int .i64 ((rd_T107 t3.1.f2 1).f0), .string ((rd_T107 t3.1.f2 1).f1), .slice B107999_2 (rd_T107 t3.1.f2 1).f2.length d107999_2]] (by rfl) rfl rfl (by simp only [List.map_toArray, List.map_cons, List.map_nil]; rfl) ?_; refine (impl_opener_num_0.calls ht109001.out y107999_2 m107999_2 (hV.lend HS HL) HA).mono ?_; rintro _ wt109001 ⟨rfl, HQ⟩; refine ⟨_, rfl, ?_⟩; replace HS : Hp A19 wt15 _ [.box g2 [.slice none 0 0, .int .i64 0, .int .i64 0, .int .i64 0, .int .i64 0, .bool false] 67, .box g20 [.bool t109001.2.f0] 133, .own (Zd.slice 9 Zd.string) t104001.1 [.slice B104002 t104001.1.length d104002]] := HB _ _ HQ (Nat.le_of_ble_eq_true rfl); clear HQ HA HB HL HD; (try clear F)
           replace HS : Hp A19 wt15 _ [.box g2 [.slice none 0 0, .int .i64 0, .int .i64 0, .int .i64 0, .int .i64 0, .bool false] 67, .box g20 [.bool t109001.2.f0] 133, .own (Zd.slice 9 Zd.string) t104001.1 [.slice B104002 t104001.1.length d104002]] := HS
           have F := HS.boxes; simp only [boxFacts, and_true] at F
           refine hK.out _ _ ⟨[], HS.arr [some 0, none] (by decide)⟩ (fun HH => ?_)
           clear hK K
           refine norm_ (a' := ?_) ?_ ?_
           rotate_left
           · show Act.put _ (some 33) _ = _; simp only [Act.put, List.setIfInBounds_toArray, List.set_cons_zero, List.set_cons_succ, i64_w, i32_w, c12, c18]; rfl
           refine dr_any [14, 31] HT (by kernel_rfl) (by decide) (AllReadyL.cons rfl (by decide) (fun K hK => ?_) (AllReadyL.cons rfl (by decide) (fun K hK => ?_) AllReadyL.nil))
           · refine HS.lend [1] (by decide) [.box g20 [.bool t109001.2.f0] 133] rfl (fun A' HL HD HA HB => ?_); refine goes_ Try.func93 (by kernel_rfl) rfl #[.pointer (some ⟨g20, 0, none⟩), .agg #[.int .i64 ((rd_T107 t3.1.f2 2).f0), .string ((rd_T107 t3.1.f2 2).f1), .slice B112999_2 (rd_T107 t3.1.f2 2).f2.length d112999_2]] (by rfl) rfl rfl (by simp only [List.map_toArray, List.map_cons, List.map_nil]; rfl) ?_; refine (impl_opener_num_0.calls ht114001.out y112999_2 m112999_2 (hV.lend HS HL) HA).mono ?_; rintro _ wt114001 ⟨rfl, HQ⟩; refine ⟨_, rfl, ?_⟩; replace HS : Hp A19 wt15 _ [.box g2 [.slice none 0 0, .int .i64 0, .int .i64 0, .int .i64 0, .int .i64 0, .bool false] 67, .box g20 [.bool t114001.2.f0] 133, .own (Zd.slice 9 Zd.string) t104001.1 [.slice B104002 t104001.1.length d104002]] := HB _ _ HQ (Nat.le_of_ble_eq_true rfl); clear HQ HA HB HL HD; (try clear F)
             replace HS : Hp A19 wt15 _ [.box g2 [.slice none 0 0, .int .i64 0, .int .i64 0, .int .i64 0, .int .i64 0, .bool false] 67, .box g20 [.bool t114001.2.f0] 133, .own (Zd.slice 9 Zd.string) t104001.1 [.slice B104002 t104001.1.length d104002]] := HS
             have F := HS.boxes; simp only [boxFacts, and_true] at F
             refine hK.out _ _ ⟨[], HS.arr [some 0, none] (by decide)⟩ (fun HH => ?_)
             clear hK K
             refine norm_ (a' := ?_) ?_ ?_
             rotate_left
             · show Act.put _ (some 38) _ = _; simp only [Act.put, List.setIfInBounds_toArray, List.set_cons_zero, List.set_cons_succ, i64_w, i32_w, c12, c18]; rfl
             refine dr_any [19, 31] HT (by kernel_rfl) (by decide) (AllReadyL.cons rfl (by decide) (fun K hK => ?_) (AllReadyL.cons rfl (by decide) (fun K hK => ?_) AllReadyL.nil))
             · refine HS.lend [1] (by decide) [.box g20 [.bool t114001.2.f0] 133] rfl (fun A' HL HD HA HB => ?_); refine goes_ Try.func93 (by kernel_rfl) rfl #[.pointer (some ⟨g20, 0, none⟩), .agg #[.int .i64 ((rd_T107 t3.1.f2 3).f0), .string ((rd_T107 t3.1.f2 3).f1), .slice B117999_2 (rd_T107 t3.1.f2 3).f2.length d117999_2]] (by rfl) rfl rfl (by simp only [List.map_toArray, List.map_cons, List.map_nil]; rfl) ?_; refine (impl_opener_num_0.calls ht119001.out y117999_2 m117999_2 (hV.lend HS HL) HA).mono ?_; rintro _ wt119001 ⟨rfl, HQ⟩; refine ⟨_, rfl, ?_⟩; replace HS : Hp A19 wt15 _ [.box g2 [.slice none 0 0, .int .i64 0, .int .i64 0, .int .i64 0, .int .i64 0, .bool false] 67, .box g20 [.bool t119001.2.f0] 133, .own (Zd.slice 9 Zd.string) t104001.1 [.slice B104002 t104001.1.length d104002]] := HB _ _ HQ (Nat.le_of_ble_eq_true rfl); clear HQ HA HB HL HD; (try clear F)
               replace HS : Hp A19 wt15 _ [.box g2 [.slice none 0 0, .int .i64 0, .int .i64 0, .int .i64 0, .int .i64 0, .bool false] 67, .box g20 [.bool t119001.2.f0] 133, .own (Zd.slice 9 Zd.string) t104001.1 [.slice B104002 t104001.1.length d104002]] := HS
               have F := HS.boxes; simp only [boxFacts, and_true] at F
               refine hK.out _ _ ⟨[], HS.arr [some 0, none] (by decide)⟩ (fun HH => ?_)
               clear hK K
               refine norm_ (a' := ?_) ?_ ?_
               rotate_left
               · show Act.put _ (some 43) _ = _; simp only [Act.put, List.setIfInBounds_toArray, List.set_cons_zero, List.set_cons_succ, i64_w, i32_w, c12, c18]; rfl
               refine dr_any [24, 31] HT (by kernel_rfl) (by decide) (AllReadyL.cons rfl (by decide) (fun K hK => ?_) (AllReadyL.cons rfl (by decide) (fun K hK => ?_) AllReadyL.nil))
               · refine HS.lend [1] (by decide) [.box g20 [.bool t119001.2.f0] 133] rfl (fun A' HL HD HA HB => ?_); refine goes_ Try.func93 (by kernel_rfl) rfl #[.pointer (some ⟨g20, 0, none⟩), .agg #[.int .i64 ((rd_T107 t3.1.f2 4).f0), .string ((rd_T107 t3.1.f2 4).f1), .slice B122999_2 (rd_T107 t3.1.f2 4).f2.length d122999_2]] (by rfl) rfl rfl (by simp only [List.map_toArray, List.map_cons, List.map_nil]; rfl) ?_; refine (impl_opener_num_0.calls ht124001.out y122999_2 m122999_2 (hV.lend HS HL) HA).mono ?_; rintro _ wt124001 ⟨rfl, HQ⟩; refine ⟨_, rfl, ?_⟩; replace HS : Hp A19 wt15 _ [.box g2 [.slice none 0 0, .int .i64 0, .int .i64 0, .int .i64 0, .int .i64 0, .bool false] 67, .box g20 [.bool t124001.2.f0] 133, .own (Zd.slice 9 Zd.string) t104001.1 [.slice B104002 t104001.1.length d104002]] := HB _ _ HQ (Nat.le_of_ble_eq_true rfl); clear HQ HA HB HL HD; (try clear F)
                 replace HS : Hp A19 wt15 _ [.box g2 [.slice none 0 0, .int .i64 0, .int .i64 0, .int .i64 0, .int .i64 0, .bool false] 67, .box g20 [.bool t124001.2.f0] 133, .own (Zd.slice 9 Zd.string) t104001.1 [.slice B104002 t104001.1.length d104002]] := HS
                 have F := HS.boxes; simp only [boxFacts, and_true] at F
                 refine hK.out _ _ ⟨[], HS.arr [some 0, none] (by decide)⟩ (fun HH => ?_)
                 clear hK K
                 refine norm_ (a' := ?_) ?_ ?_
                 rotate_left
                 · show Act.put _ (some 48) _ = _; simp only [Act.put, List.setIfInBounds_toArray, List.set_cons_zero, List.set_cons_succ, i64_w, i32_w, c12, c18]; rfl
                 refine dr_any [29, 31] HT (by kernel_rfl) (by decide) (AllReadyL.cons rfl (by decide) (fun K hK => ?_) (AllReadyL.cons rfl (by decide) (fun K hK => ?_) AllReadyL.nil))
                 · refine HS.lend [1] (by decide) [.box g20 [.bool t124001.2.f0] 133] rfl (fun A' HL HD HA HB => ?_); refine goes_ Try.func94 (by kernel_rfl) rfl #[.pointer (some ⟨g20, 0, none⟩), .agg #[.int .i64 ((rd_T107 t3.1.f2 5).f0), .string ((rd_T107 t3.1.f2 5).f1), .slice B127999_2 (rd_T107 t3.1.f2 5).f2.length d127999_2]] (by rfl) rfl rfl (by simp only [List.map_toArray, List.map_cons, List.map_nil]; rfl) ?_; refine (impl_opener_flag_0.calls ht129001.out y127999_2 m127999_2 (hV.lend HS HL) HA).mono ?_; rintro _ wt129001 ⟨rfl, HQ⟩; refine ⟨_, rfl, ?_⟩; replace HS : Hp A19 wt15 _ [.box g2 [.slice none 0 0, .int .i64 0, .int .i64 0, .int .i64 0, .int .i64 0, .bool false] 67, .box g20 [.bool t129001.2.f0] 133, .own (Zd.slice 9 Zd.string) t104001.1 [.slice B104002 t104001.1.length d104002]] := HB _ _ HQ (Nat.le_of_ble_eq_true rfl); clear HQ HA HB HL HD; (try clear F)
                   replace HS : Hp A19 wt15 _ [.box g2 [.slice none 0 0, .int .i64 0, .int .i64 0, .int .i64 0, .int .i64 0, .bool false] 67, .box g20 [.bool t129001.2.f0] 133, .own (Zd.slice 9 Zd.string) t104001.1 [.slice B104002 t104001.1.length d104002]] := HS
                   have F := HS.boxes; simp only [boxFacts, and_true] at F
                   refine hK.out _ _ ⟨[], HS.arr [some 0, none] (by decide)⟩ (fun HH => ?_)
                   clear hK K
                   refine norm_ (a' := ?_) ?_ ?_
                   rotate_left
                   · show Act.put _ (some 53) _ = _; simp only [Act.put, List.setIfInBounds_toArray, List.set_cons_zero, List.set_cons_succ, i64_w, i32_w, c12, c18]; rfl
                   refine drq_of [(30, some 54)] ?_
                   repeat (first | (refine drq_pure HT (v := ?_) (a' := ?_) rfl rfl (by kernel_rfl) (fun _ _ _ h => h) (.inl ⟨by rfl, ?_⟩) ?_ ?_; rotate_left; (intro w'; go_simp; with_reducible rfl); rotate_left; (simp only [Act.put, List.setIfInBounds_toArray, List.set_cons_zero, List.set_cons_succ, i64_w, i32_w]; rfl)))
                   refine drq_end ?_
                   refine dr_one 31 HT rfl (by kernel_rfl) (by decide) (fun K hK => ?_)
                   refine if_wp (by rfl) ?_; refine wp_box HS (by first | (go_simp; done) | (go_simp; rfl)) rfl ?_; clear HS; (try clear F); intro g8 w8 HS
                   replace HS : Hp A19 wt15 _ [.box g2 [.slice none 0 0, .int .i64 0, .int .i64 0, .int .i64 0, .int .i64 0, .bool false] 67, .box g20 [.bool t129001.2.f0] 133, .own (Zd.slice 9 Zd.string) t104001.1 [.slice B104002 t104001.1.length d104002], .box g8 [.slice none 0 0, .int .i64 0, .int .i64 0, .int .i64 0, .int .i64 0, .bool false] 67] := HS
                   have F := HS.boxes; simp only [boxFacts, and_true] at F
                   refine hK.out _ _ ⟨[], HS.arr [some 0, none] (by decide)⟩ (fun HH => ?_)
                   clear hK K
                   refine norm_ (a' := ?_) ?_ ?_
                   rotate_left
                   · show Act.put _ (some 8) _ = _; simp only [Act.put, List.setIfInBounds_toArray, List.set_cons_zero, List.set_cons_succ, i64_w, i32_w, c12, c18]; rfl
                   refine dr_last 32 HT rfl (by kernel_rfl) (by decide) (fun K hK => ?_)
                   refine if_wp (by rfl) ?_; refine wp_store 3 0 HS (seg := [.slice B104002 t104001.1.length d104002, .int .i64 t109001.1, .int .i64 t114001.1, .int .i64 t119001.1, .int .i64 t124001.1, .bool t129001.1]) rfl rfl rfl rfl rfl rfl (by kernel_rfl) (by simp [wrt]) (by simp [Value.oneCell']) ?_; clear HS; (try clear F); intro w132001 HS
                   replace HS : Hp A19 wt15 _ [.box g2 [.slice none 0 0, .int .i64 0, .int .i64 0, .int .i64 0, .int .i64 0, .bool false] 67, .box g20 [.bool t129001.2.f0] 133, .own (Zd.slice 9 Zd.string) t104001.1 [.slice B104002 t104001.1.length d104002], .box g8 [.slice B104002 t104001.1.length d104002, .int .i64 t109001.1, .int .i64 t114001.1, .int .i64 t119001.1, .int .i64 t124001.1, .bool t129001.1] 67] := HS
                   have F := HS.boxes; simp only [boxFacts, and_true] at F
                   refine hK.out _ _ ?_
                   clear hK K
                   refine norm_ ?_ (hJ (.slice B104002 t104001.1.length d104002, g8, .pointer (some ad102999), .agg #[.int .i64 ((rd_T107 t3.1.f2 0).f0), .string ((rd_T107 t3.1.f2 0).f1), .slice B102999_2 (rd_T107 t3.1.f2 0).f2.length d102999_2], .pointer (some (ad102999.add 3)), .agg #[.int .i64 ((rd_T107 t3.1.f2 1).f0), .string ((rd_T107 t3.1.f2 1).f1), .slice B107999_2 (rd_T107 t3.1.f2 1).f2.length d107999_2], .pointer (some (ad102999.add 6)), .agg #[.int .i64 ((rd_T107 t3.1.f2 2).f0), .string ((rd_T107 t3.1.f2 2).f1), .slice B112999_2 (rd_T107 t3.1.f2 2).f2.length d112999_2], .pointer (some (ad102999.add 9)), .agg #[.int .i64 ((rd_T107 t3.1.f2 3).f0), .string ((rd_T107 t3.1.f2 3).f1), .slice B117999_2 (rd_T107 t3.1.f2 3).f2.length d117999_2], .pointer (some (ad102999.add 12)), .agg #[.int .i64 ((rd_T107 t3.1.f2 4).f0), .string ((rd_T107 t3.1.f2 4).f1), .slice B122999_2 (rd_T107 t3.1.f2 4).f2.length d122999_2], .pointer (some (ad102999.add 15)), .agg #[.int .i64 ((rd_T107 t3.1.f2 5).f0), .string ((rd_T107 t3.1.f2 5).f1), .slice B127999_2 (rd_T107 t3.1.f2 5).f2.length d127999_2]) _ (HS.arr [some 0, some 1, some 2, some 3] (by decide)))
                   simp only [putAll, Act.put, List.setIfInBounds_toArray, List.set_cons_zero, List.set_cons_succ, i64_w, i32_w, c12, c18]
                   (try rfl)
                 · refine if_wp (by rfl) ?_; refine wp_box HS (by first | (go_simp; done) | (go_simp; rfl)) rfl ?_; clear HS; (try clear F); intro g8 w8 HS
                   replace HS : Hp A19 wt15 _ [.box g2 [.slice none 0 0, .int .i64 0, .int .i64 0, .int .i64 0, .int .i64 0, .bool false] 67, .box g20 [.bool t124001.2.f0] 133, .own (Zd.slice 9 Zd.string) t104001.1 [.slice B104002 t104001.1.length d104002], .box g8 [.slice none 0 0, .int .i64 0, .int .i64 0, .int .i64 0, .int .i64 0, .bool false] 67] := HS
                   have F := HS.boxes; simp only [boxFacts, and_true] at F
                   refine hK.out _ _ ⟨[], HS.arr [some 0, none] (by decide)⟩ (fun HH => ?_)
                   clear hK K
                   refine norm_ (a' := ?_) ?_ ?_
                   rotate_left
                   · show Act.put _ (some 8) _ = _; simp only [Act.put, List.setIfInBounds_toArray, List.set_cons_zero, List.set_cons_succ, i64_w, i32_w, c12, c18]; rfl
                   refine dr_one 29 HT rfl (by kernel_rfl) (by decide) (fun K hK => ?_)
                   refine HS.lend [1] (by decide) [.box g20 [.bool t124001.2.f0] 133] rfl (fun A' HL HD HA HB => ?_); refine goes_ Try.func94 (by kernel_rfl) rfl #[.pointer (some ⟨g20, 0, none⟩), .agg #[.int .i64 ((rd_T107 t3.1.f2 5).f0), .string ((rd_T107 t3.1.f2 5).f1), .slice B127999_2 (rd_T107 t3.1.f2 5).f2.length d127999_2]] (by rfl) rfl rfl (by simp only [List.map_toArray, List.map_cons, List.map_nil]; rfl) ?_; refine (impl_opener_flag_0.calls ht129001.out y127999_2 m127999_2 (hV.lend HS HL) HA).mono ?_; rintro _ wt129001 ⟨rfl, HQ⟩; refine ⟨_, rfl, ?_⟩; replace HS : Hp A19 wt15 _ [.box g2 [.slice none 0 0, .int .i64 0, .int .i64 0, .int .i64 0, .int .i64 0, .bool false] 67, .box g20 [.bool t129001.2.f0] 133, .own (Zd.slice 9 Zd.string) t104001.1 [.slice B104002 t104001.1.length d104002], .box g8 [.slice none 0 0, .int .i64 0, .int .i64 0, .int .i64 0, .int .i64 0, .bool false] 67] := HB _ _ HQ (Nat.le_of_ble_eq_true rfl); clear HQ HA HB HL HD; (try clear F)
                   replace HS : Hp A19 wt15 _ [.box g2 [.slice none 0 0, .int .i64 0, .int .i64 0, .int .i64 0, .int .i64 0, .bool false] 67, .box g20 [.bool t129001.2.f0] 133, .own (Zd.slice 9 Zd.string) t104001.1 [.slice B104002 t104001.1.length d104002], .box g8 [.slice none 0 0, .int .i64 0, .int .i64 0, .int .i64 0, .int .i64 0, .bool false] 67] := HS
                   have F := HS.boxes; simp only [boxFacts, and_true] at F
                   refine hK.out _ _ ⟨[], HS.arr [some 0, none] (by decide)⟩ (fun HH => ?_)
                   clear hK K
                   refine norm_ (a' := ?_) ?_ ?_
                   rotate_left
                   · show Act.put _ (some 53) _ = _; simp only [Act.put, List.setIfInBounds_toArray, List.set_cons_zero, List.set_cons_succ, i64_w, i32_w, c12, c18]; rfl
                   refine drq_of [(30, some 54)] ?_
                   repeat (first | (refine drq_pure HT (v := ?_) (a' := ?_) rfl rfl (by kernel_rfl) (fun _ _ _ h => h) (.inl ⟨by rfl, ?_⟩) ?_ ?_; rotate_left; (intro w'; go_simp; with_reducible rfl); rotate_left; (simp only [Act.put, List.setIfInBounds_toArray, List.set_cons_zero, List.set_cons_succ, i64_w, i32_w]; rfl)))
                   refine drq_end ?_
                   refine dr_last 32 HT rfl (by kernel_rfl) (by decide) (fun K hK => ?_)
                   refine if_wp (by rfl) ?_; refine wp_store 3 0 HS (seg := [.slice B104002 t104001.1.length d104002, .int .i64 t109001.1, .int .i64 t114001.1, .int .i64 t119001.1, .int .i64 t124001.1, .bool t129001.1]) rfl rfl rfl rfl rfl rfl (by kernel_rfl) (by simp [wrt]) (by simp [Value.oneCell']) ?_; clear HS; (try clear F); intro w132001 HS
                   replace HS : Hp A19 wt15 _ [.box g2 [.slice none 0 0, .int .i64 0, .int .i64 0, .int .i64 0, .int .i64 0, .bool false] 67, .box g20 [.bool t129001.2.f0] 133, .own (Zd.slice 9 Zd.string) t104001.1 [.slice B104002 t104001.1.length d104002], .box g8 [.slice B104002 t104001.1.length d104002, .int .i64 t109001.1, .int .i64 t114001.1, .int .i64 t119001.1, .int .i64 t124001.1, .bool t129001.1] 67] := HS
                   have F := HS.boxes; simp only [boxFacts, and_true] at F
                   refine hK.out _ _ ?_
                   clear hK K
                   refine norm_ ?_ (hJ (.slice B104002 t104001.1.length d104002, g8, .pointer (some ad102999), .agg #[.int .i64 ((rd_T107 t3.1.f2 0).f0), .string ((rd_T107 t3.1.f2 0).f1), .slice B102999_2 (rd_T107 t3.1.f2 0).f2.length d102999_2], .pointer (some (ad102999.add 3)), .agg #[.int .i64 ((rd_T107 t3.1.f2 1).f0), .string ((rd_T107 t3.1.f2 1).f1), .slice B107999_2 (rd_T107 t3.1.f2 1).f2.length d107999_2], .pointer (some (ad102999.add 6)), .agg #[.int .i64 ((rd_T107 t3.1.f2 2).f0), .string ((rd_T107 t3.1.f2 2).f1), .slice B112999_2 (rd_T107 t3.1.f2 2).f2.length d112999_2], .pointer (some (ad102999.add 9)), .agg #[.int .i64 ((rd_T107 t3.1.f2 3).f0), .string ((rd_T107 t3.1.f2 3).f1), .slice B117999_2 (rd_T107 t3.1.f2 3).f2.length d117999_2], .pointer (some (ad102999.add 12)), .agg #[.int .i64 ((rd_T107 t3.1.f2 4).f0), .string ((rd_T107 t3.1.f2 4).f1), .slice B122999_2 (rd_T107 t3.1.f2 4).f2.length d122999_2], .pointer (some (ad102999.add 15)), .agg #[.int .i64 ((rd_T107 t3.1.f2 5).f0), .string ((rd_T107 t3.1.f2 5).f1), .slice B127999_2 (rd_T107 t3.1.f2 5).f2.length d127999_2]) _ (HS.arr [some 0, some 1, some 2, some 3] (by decide)))
                   simp only [putAll, Act.put, List.setIfInBounds_toArray, List.set_cons_zero, List.set_cons_succ, i64_w, i32_w, c12, c18]
                   (try rfl)
               · refine if_wp (by rfl) ?_; refine wp_box HS (by first | (go_simp; done) | (go_simp; rfl)) rfl ?_; clear HS; (try clear F); intro g8 w8 HS
                 replace HS : Hp A19 wt15 _ [.box g2 [.slice none 0 0, .int .i64 0, .int .i64 0, .int .i64 0, .int .i64 0, .bool false] 67, .box g20 [.bool t119001.2.f0] 133, .own (Zd.slice 9 Zd.string) t104001.1 [.slice B104002 t104001.1.length d104002], .box g8 [.slice none 0 0, .int .i64 0, .int .i64 0, .int .i64 0, .int .i64 0, .bool false] 67] := HS
                 have F := HS.boxes; simp only [boxFacts, and_true] at F
                 refine hK.out _ _ ⟨[], HS.arr [some 0, none] (by decide)⟩ (fun HH => ?_)
                 clear hK K
                 refine norm_ (a' := ?_) ?_ ?_
                 rotate_left
                 · show Act.put _ (some 8) _ = _; simp only [Act.put, List.setIfInBounds_toArray, List.set_cons_zero, List.set_cons_succ, i64_w, i32_w, c12, c18]; rfl
                 refine dr_one 24 HT rfl (by kernel_rfl) (by decide) (fun K hK => ?_)
                 refine HS.lend [1] (by decide) [.box g20 [.bool t119001.2.f0] 133] rfl (fun A' HL HD HA HB => ?_); refine goes_ Try.func93 (by kernel_rfl) rfl #[.pointer (some ⟨g20, 0, none⟩), .agg #[.int .i64 ((rd_T107 t3.1.f2 4).f0), .string ((rd_T107 t3.1.f2 4).f1), .slice B122999_2 (rd_T107 t3.1.f2 4).f2.length d122999_2]] (by rfl) rfl rfl (by simp only [List.map_toArray, List.map_cons, List.map_nil]; rfl) ?_; refine (impl_opener_num_0.calls ht124001.out y122999_2 m122999_2 (hV.lend HS HL) HA).mono ?_; rintro _ wt124001 ⟨rfl, HQ⟩; refine ⟨_, rfl, ?_⟩; replace HS : Hp A19 wt15 _ [.box g2 [.slice none 0 0, .int .i64 0, .int .i64 0, .int .i64 0, .int .i64 0, .bool false] 67, .box g20 [.bool t124001.2.f0] 133, .own (Zd.slice 9 Zd.string) t104001.1 [.slice B104002 t104001.1.length d104002], .box g8 [.slice none 0 0, .int .i64 0, .int .i64 0, .int .i64 0, .int .i64 0, .bool false] 67] := HB _ _ HQ (Nat.le_of_ble_eq_true rfl); clear HQ HA HB HL HD; (try clear F)
                 replace HS : Hp A19 wt15 _ [.box g2 [.slice none 0 0, .int .i64 0, .int .i64 0, .int .i64 0, .int .i64 0, .bool false] 67, .box g20 [.bool t124001.2.f0] 133, .own (Zd.slice 9 Zd.string) t104001.1 [.slice B104002 t104001.1.length d104002], .box g8 [.slice none 0 0, .int .i64 0, .int .i64 0, .int .i64 0, .int .i64 0, .bool false] 67] := HS
                 have F := HS.boxes; simp only [boxFacts, and_true] at F
                 refine hK.out _ _ ⟨[], HS.arr [some 0, none] (by decide)⟩ (fun HH => ?_)
                 clear hK K
                 refine norm_ (a' := ?_) ?_ ?_
                 rotate_left
                 · show Act.put _ (some 48) _ = _; simp only [Act.put, List.setIfInBounds_toArray, List.set_cons_zero, List.set_cons_succ, i64_w, i32_w, c12, c18]; rfl
                 refine dr_one 29 HT rfl (by kernel_rfl) (by decide) (fun K hK => ?_)
                 refine HS.lend [1] (by decide) [.box g20 [.bool t124001.2.f0] 133] rfl (fun A' HL HD HA HB => ?_); refine goes_ Try.func94 (by kernel_rfl) rfl #[.pointer (some ⟨g20, 0, none⟩), .agg #[.int .i64 ((rd_T107 t3.1.f2 5).f0), .string ((rd_T107 t3.1.f2 5).f1), .slice B127999_2 (rd_T107 t3.1.f2 5).f2.length d127999_2]] (by rfl) rfl rfl (by simp only [List.map_toArray, List.map_cons, List.map_nil]; rfl) ?_; refine (impl_opener_flag_0.calls ht129001.out y127999_2 m127999_2 (hV.lend HS HL) HA).mono ?_; rintro _ wt129001 ⟨rfl, HQ⟩; refine ⟨_, rfl, ?_⟩; replace HS : Hp A19 wt15 _ [.box g2 [.slice none 0 0, .int .i64 0, .int .i64 0, .int .i64 0, .int .i64 0, .bool false] 67, .box g20 [.bool t129001.2.f0] 133, .own (Zd.slice 9 Zd.string) t104001.1 [.slice B104002 t104001.1.length d104002], .box g8 [.slice none 0 0, .int .i64 0, .int .i64 0, .int .i64 0, .int .i64 0, .bool false] 67] := HB _ _ HQ (Nat.le_of_ble_eq_true rfl); clear HQ HA HB HL HD; (try clear F)
                 replace HS : Hp A19 wt15 _ [.box g2 [.slice none 0 0, .int .i64 0, .int .i64 0, .int .i64 0, .int .i64 0, .bool false] 67, .box g20 [.bool t129001.2.f0] 133, .own (Zd.slice 9 Zd.string) t104001.1 [.slice B104002 t104001.1.length d104002], .box g8 [.slice none 0 0, .int .i64 0, .int .i64 0, .int .i64 0, .int .i64 0, .bool false] 67] := HS
                 have F := HS.boxes; simp only [boxFacts, and_true] at F
                 refine hK.out _ _ ⟨[], HS.arr [some 0, none] (by decide)⟩ (fun HH => ?_)
                 clear hK K
                 refine norm_ (a' := ?_) ?_ ?_
                 rotate_left
                 · show Act.put _ (some 53) _ = _; simp only [Act.put, List.setIfInBounds_toArray, List.set_cons_zero, List.set_cons_succ, i64_w, i32_w, c12, c18]; rfl
                 refine drq_of [(30, some 54)] ?_
                 repeat (first | (refine drq_pure HT (v := ?_) (a' := ?_) rfl rfl (by kernel_rfl) (fun _ _ _ h => h) (.inl ⟨by rfl, ?_⟩) ?_ ?_; rotate_left; (intro w'; go_simp; with_reducible rfl); rotate_left; (simp only [Act.put, List.setIfInBounds_toArray, List.set_cons_zero, List.set_cons_succ, i64_w, i32_w]; rfl)))
                 refine drq_end ?_
                 refine dr_last 32 HT rfl (by kernel_rfl) (by decide) (fun K hK => ?_)
                 refine if_wp (by rfl) ?_; refine wp_store 3 0 HS (seg := [.slice B104002 t104001.1.length d104002, .int .i64 t109001.1, .int .i64 t114001.1, .int .i64 t119001.1, .int .i64 t124001.1, .bool t129001.1]) rfl rfl rfl rfl rfl rfl (by kernel_rfl) (by simp [wrt]) (by simp [Value.oneCell']) ?_; clear HS; (try clear F); intro w132001 HS
                 replace HS : Hp A19 wt15 _ [.box g2 [.slice none 0 0, .int .i64 0, .int .i64 0, .int .i64 0, .int .i64 0, .bool false] 67, .box g20 [.bool t129001.2.f0] 133, .own (Zd.slice 9 Zd.string) t104001.1 [.slice B104002 t104001.1.length d104002], .box g8 [.slice B104002 t104001.1.length d104002, .int .i64 t109001.1, .int .i64 t114001.1, .int .i64 t119001.1, .int .i64 t124001.1, .bool t129001.1] 67] := HS
                 have F := HS.boxes; simp only [boxFacts, and_true] at F
                 refine hK.out _ _ ?_
                 clear hK K
                 refine norm_ ?_ (hJ (.slice B104002 t104001.1.length d104002, g8, .pointer (some ad102999), .agg #[.int .i64 ((rd_T107 t3.1.f2 0).f0), .string ((rd_T107 t3.1.f2 0).f1), .slice B102999_2 (rd_T107 t3.1.f2 0).f2.length d102999_2], .pointer (some (ad102999.add 3)), .agg #[.int .i64 ((rd_T107 t3.1.f2 1).f0), .string ((rd_T107 t3.1.f2 1).f1), .slice B107999_2 (rd_T107 t3.1.f2 1).f2.length d107999_2], .pointer (some (ad102999.add 6)), .agg #[.int .i64 ((rd_T107 t3.1.f2 2).f0), .string ((rd_T107 t3.1.f2 2).f1), .slice B112999_2 (rd_T107 t3.1.f2 2).f2.length d112999_2], .pointer (some (ad102999.add 9)), .agg #[.int .i64 ((rd_T107 t3.1.f2 3).f0), .string ((rd_T107 t3.1.f2 3).f1), .slice B117999_2 (rd_T107 t3.1.f2 3).f2.length d117999_2], .pointer (some (ad102999.add 12)), .agg #[.int .i64 ((rd_T107 t3.1.f2 4).f0), .string ((rd_T107 t3.1.f2 4).f1), .slice B122999_2 (rd_T107 t3.1.f2 4).f2.length d122999_2], .pointer (some (ad102999.add 15)), .agg #[.int .i64 ((rd_T107 t3.1.f2 5).f0), .string ((rd_T107 t3.1.f2 5).f1), .slice B127999_2 (rd_T107 t3.1.f2 5).f2.length d127999_2]) _ (HS.arr [some 0, some 1, some 2, some 3] (by decide)))
                 simp only [putAll, Act.put, List.setIfInBounds_toArray, List.set_cons_zero, List.set_cons_succ, i64_w, i32_w, c12, c18]
                 (try rfl)
             · refine if_wp (by rfl) ?_; refine wp_box HS (by first | (go_simp; done) | (go_simp; rfl)) rfl ?_; clear HS; (try clear F); intro g8 w8 HS
               replace HS : Hp A19 wt15 _ [.box g2 [.slice none 0 0, .int .i64 0, .int .i64 0, .int .i64 0, .int .i64 0, .bool false] 67, .box g20 [.bool t114001.2.f0] 133, .own (Zd.slice 9 Zd.string) t104001.1 [.slice B104002 t104001.1.length d104002], .box g8 [.slice none 0 0, .int .i64 0, .int .i64 0, .int .i64 0, .int .i64 0, .bool false] 67] := HS
               have F := HS.boxes; simp only [boxFacts, and_true] at F
               refine hK.out _ _ ⟨[], HS.arr [some 0, none] (by decide)⟩ (fun HH => ?_)
               clear hK K
               refine norm_ (a' := ?_) ?_ ?_
               rotate_left
               · show Act.put _ (some 8) _ = _; simp only [Act.put, List.setIfInBounds_toArray, List.set_cons_zero, List.set_cons_succ, i64_w, i32_w, c12, c18]; rfl
               refine dr_one 19 HT rfl (by kernel_rfl) (by decide) (fun K hK => ?_)
               refine HS.lend [1] (by decide) [.box g20 [.bool t114001.2.f0] 133] rfl (fun A' HL HD HA HB => ?_); refine goes_ Try.func93 (by kernel_rfl) rfl #[.pointer (some ⟨g20, 0, none⟩), .agg #[.int .i64 ((rd_T107 t3.1.f2 3).f0), .string ((rd_T107 t3.1.f2 3).f1), .slice B117999_2 (rd_T107 t3.1.f2 3).f2.length d117999_2]] (by rfl) rfl rfl (by simp only [List.map_toArray, List.map_cons, List.map_nil]; rfl) ?_; refine (impl_opener_num_0.calls ht119001.out y117999_2 m117999_2 (hV.lend HS HL) HA).mono ?_; rintro _ wt119001 ⟨rfl, HQ⟩; refine ⟨_, rfl, ?_⟩; replace HS : Hp A19 wt15 _ [.box g2 [.slice none 0 0, .int .i64 0, .int .i64 0, .int .i64 0, .int .i64 0, .bool false] 67, .box g20 [.bool t119001.2.f0] 133, .own (Zd.slice 9 Zd.string) t104001.1 [.slice B104002 t104001.1.length d104002], .box g8 [.slice none 0 0, .int .i64 0, .int .i64 0, .int .i64 0, .int .i64 0, .bool false] 67] := HB _ _ HQ (Nat.le_of_ble_eq_true rfl); clear HQ HA HB HL HD; (try clear F)
               replace HS : Hp A19 wt15 _ [.box g2 [.slice none 0 0, .int .i64 0, .int .i64 0, .int .i64 0, .int .i64 0, .bool false] 67, .box g20 [.bool t119001.2.f0] 133, .own (Zd.slice 9 Zd.string) t104001.1 [.slice B104002 t104001.1.length d104002], .box g8 [.slice none 0 0, .int .i64 0, .int .i64 0, .int .i64 0, .int .i64 0, .bool false] 67] := HS
               have F := HS.boxes; simp only [boxFacts, and_true] at F
               refine hK.out _ _ ⟨[], HS.arr [some 0, none] (by decide)⟩ (fun HH => ?_)
               clear hK K
               refine norm_ (a' := ?_) ?_ ?_
               rotate_left
               · show Act.put _ (some 43) _ = _; simp only [Act.put, List.setIfInBounds_toArray, List.set_cons_zero, List.set_cons_succ, i64_w, i32_w, c12, c18]; rfl
               refine dr_one 24 HT rfl (by kernel_rfl) (by decide) (fun K hK => ?_)
               refine HS.lend [1] (by decide) [.box g20 [.bool t119001.2.f0] 133] rfl (fun A' HL HD HA HB => ?_); refine goes_ Try.func93 (by kernel_rfl) rfl #[.pointer (some ⟨g20, 0, none⟩), .agg #[.int .i64 ((rd_T107 t3.1.f2 4).f0), .string ((rd_T107 t3.1.f2 4).f1), .slice B122999_2 (rd_T107 t3.1.f2 4).f2.length d122999_2]] (by rfl) rfl rfl (by simp only [List.map_toArray, List.map_cons, List.map_nil]; rfl) ?_; refine (impl_opener_num_0.calls ht124001.out y122999_2 m122999_2 (hV.lend HS HL) HA).mono ?_; rintro _ wt124001 ⟨rfl, HQ⟩; refine ⟨_, rfl, ?_⟩; replace HS : Hp A19 wt15 _ [.box g2 [.slice none 0 0, .int .i64 0, .int .i64 0, .int .i64 0, .int .i64 0, .bool false] 67, .box g20 [.bool t124001.2.f0] 133, .own (Zd.slice 9 Zd.string) t104001.1 [.slice B104002 t104001.1.length d104002], .box g8 [.slice none 0 0, .int .i64 0, .int .i64 0, .int .i64 0, .int .i64 0, .bool false] 67] := HB _ _ HQ (Nat.le_of_ble_eq_true rfl); clear HQ HA HB HL HD; (try clear F)
               replace HS : Hp A19 wt15 _ [.box g2 [.slice none 0 0, .int .i64 0, .int .i64 0, .int .i64 0, .int .i64 0, .bool false] 67, .box g20 [.bool t124001.2.f0] 133, .own (Zd.slice 9 Zd.string) t104001.1 [.slice B104002 t104001.1.length d104002], .box g8 [.slice none 0 0, .int .i64 0, .int .i64 0, .int .i64 0, .int .i64 0, .bool false] 67] := HS
               have F := HS.boxes; simp only [boxFacts, and_true] at F
               refine hK.out _ _ ⟨[], HS.arr [some 0, none] (by decide)⟩ (fun HH => ?_)
               clear hK K
               refine norm_ (a' := ?_) ?_ ?_
               rotate_left
               · show Act.put _ (some 48) _ = _; simp only [Act.put, List.setIfInBounds_toArray, List.set_cons_zero, List.set_cons_succ, i64_w, i32_w, c12, c18]; rfl
               refine dr_one 29 HT rfl (by kernel_rfl) (by decide) (fun K hK => ?_)
               refine HS.lend [1] (by decide) [.box g20 [.bool t124001.2.f0] 133] rfl (fun A' HL HD HA HB => ?_); refine goes_ Try.func94 (by kernel_rfl) rfl #[.pointer (some ⟨g20, 0, none⟩), .agg #[.int .i64 ((rd_T107 t3.1.f2 5).f0), .string ((rd_T107 t3.1.f2 5).f1), .slice B127999_2 (rd_T107 t3.1.f2 5).f2.length d127999_2]] (by rfl) rfl rfl (by simp only [List.map_toArray, List.map_cons, List.map_nil]; rfl) ?_; refine (impl_opener_flag_0.calls ht129001.out y127999_2 m127999_2 (hV.lend HS HL) HA).mono ?_; rintro _ wt129001 ⟨rfl, HQ⟩; refine ⟨_, rfl, ?_⟩; replace HS : Hp A19 wt15 _ [.box g2 [.slice none 0 0, .int .i64 0, .int .i64 0, .int .i64 0, .int .i64 0, .bool false] 67, .box g20 [.bool t129001.2.f0] 133, .own (Zd.slice 9 Zd.string) t104001.1 [.slice B104002 t104001.1.length d104002], .box g8 [.slice none 0 0, .int .i64 0, .int .i64 0, .int .i64 0, .int .i64 0, .bool false] 67] := HB _ _ HQ (Nat.le_of_ble_eq_true rfl); clear HQ HA HB HL HD; (try clear F)
               replace HS : Hp A19 wt15 _ [.box g2 [.slice none 0 0, .int .i64 0, .int .i64 0, .int .i64 0, .int .i64 0, .bool false] 67, .box g20 [.bool t129001.2.f0] 133, .own (Zd.slice 9 Zd.string) t104001.1 [.slice B104002 t104001.1.length d104002], .box g8 [.slice none 0 0, .int .i64 0, .int .i64 0, .int .i64 0, .int .i64 0, .bool false] 67] := HS
               have F := HS.boxes; simp only [boxFacts, and_true] at F
               refine hK.out _ _ ⟨[], HS.arr [some 0, none] (by decide)⟩ (fun HH => ?_)
               clear hK K
               refine norm_ (a' := ?_) ?_ ?_
               rotate_left
               · show Act.put _ (some 53) _ = _; simp only [Act.put, List.setIfInBounds_toArray, List.set_cons_zero, List.set_cons_succ, i64_w, i32_w, c12, c18]; rfl
               refine drq_of [(30, some 54)] ?_
               repeat (first | (refine drq_pure HT (v := ?_) (a' := ?_) rfl rfl (by kernel_rfl) (fun _ _ _ h => h) (.inl ⟨by rfl, ?_⟩) ?_ ?_; rotate_left; (intro w'; go_simp; with_reducible rfl); rotate_left; (simp only [Act.put, List.setIfInBounds_toArray, List.set_cons_zero, List.set_cons_succ, i64_w, i32_w]; rfl)))
               refine drq_end ?_
               refine dr_last 32 HT rfl (by kernel_rfl) (by decide) (fun K hK => ?_)
               refine if_wp (by rfl) ?_; refine wp_store 3 0 HS (seg := [.slice B104002 t104001.1.length d104002, .int .i64 t109001.1, .int .i64 t114001.1, .int .i64 t119001.1, .int .i64 t124001.1, .bool t129001.1]) rfl rfl rfl rfl rfl rfl (by kernel_rfl) (by simp [wrt]) (by simp [Value.oneCell']) ?_; clear HS; (try clear F); intro w132001 HS
               replace HS : Hp A19 wt15 _ [.box g2 [.slice none 0 0, .int .i64 0, .int .i64 0, .int .i64 0, .int .i64 0, .bool false] 67, .box g20 [.bool t129001.2.f0] 133, .own (Zd.slice 9 Zd.string) t104001.1 [.slice B104002 t104001.1.length d104002], .box g8 [.slice B104002 t104001.1.length d104002, .int .i64 t109001.1, .int .i64 t114001.1, .int .i64 t119001.1, .int .i64 t124001.1, .bool t129001.1] 67] := HS
               have F := HS.boxes; simp only [boxFacts, and_true] at F
               refine hK.out _ _ ?_
               clear hK K
               refine norm_ ?_ (hJ (.slice B104002 t104001.1.length d104002, g8, .pointer (some ad102999), .agg #[.int .i64 ((rd_T107 t3.1.f2 0).f0), .string ((rd_T107 t3.1.f2 0).f1), .slice B102999_2 (rd_T107 t3.1.f2 0).f2.length d102999_2], .pointer (some (ad102999.add 3)), .agg #[.int .i64 ((rd_T107 t3.1.f2 1).f0), .string ((rd_T107 t3.1.f2 1).f1), .slice B107999_2 (rd_T107 t3.1.f2 1).f2.length d107999_2], .pointer (some (ad102999.add 6)), .agg #[.int .i64 ((rd_T107 t3.1.f2 2).f0), .string ((rd_T107 t3.1.f2 2).f1), .slice B112999_2 (rd_T107 t3.1.f2 2).f2.length d112999_2], .pointer (some (ad102999.add 9)), .agg #[.int .i64 ((rd_T107 t3.1.f2 3).f0), .string ((rd_T107 t3.1.f2 3).f1), .slice B117999_2 (rd_T107 t3.1.f2 3).f2.length d117999_2], .pointer (some (ad102999.add 12)), .agg #[.int .i64 ((rd_T107 t3.1.f2 4).f0), .string ((rd_T107 t3.1.f2 4).f1), .slice B122999_2 (rd_T107 t3.1.f2 4).f2.length d122999_2], .pointer (some (ad102999.add 15)), .agg #[.int .i64 ((rd_T107 t3.1.f2 5).f0), .string ((rd_T107 t3.1.f2 5).f1), .slice B127999_2 (rd_T107 t3.1.f2 5).f2.length d127999_2]) _ (HS.arr [some 0, some 1, some 2, some 3] (by decide)))
               simp only [putAll, Act.put, List.setIfInBounds_toArray, List.set_cons_zero, List.set_cons_succ, i64_w, i32_w, c12, c18]
               (try rfl)
           · refine if_wp (by rfl) ?_; refine wp_box HS (by first | (go_simp; done) | (go_simp; rfl)) rfl ?_; clear HS; (try clear F); intro g8 w8 HS
             replace HS : Hp A19 wt15 _ [.box g2 [.slice none 0 0, .int .i64 0, .int .i64 0, .int .i64 0, .int .i64 0, .bool false] 67, .box g20 [.bool t109001.2.f0] 133, .own (Zd.slice 9 Zd.string) t104001.1 [.slice B104002 t104001.1.length d104002], .box g8 [.slice none 0 0, .int .i64 0, .int .i64 0, .int .i64 0, .int .i64 0, .bool false] 67] := HS
             have F := HS.boxes; simp only [boxFacts, and_true] at F
             refine hK.out _ _ ⟨[], HS.arr [some 0, none] (by decide)⟩ (fun HH => ?_)
             clear hK K
             refine norm_ (a' := ?_) ?_ ?_
             rotate_left
             · show Act.put _ (some 8) _ = _; simp only [Act.put, List.setIfInBounds_toArray, List.set_cons_zero, List.set_cons_succ, i64_w, i32_w, c12, c18]; rfl
             refine dr_one 14 HT rfl (by kernel_rfl) (by decide) (fun K hK => ?_)
             refine HS.lend [1] (by decide) [.box g20 [.bool t109001.2.f0] 133] rfl (fun A' HL HD HA HB => ?_); refine goes_ Try.func93 (by kernel_rfl) rfl #[.pointer (some ⟨g20, 0, none⟩), .agg #[.int .i64 ((rd_T107 t3.1.f2 2).f0), .string ((rd_T107 t3.1.f2 2).f1), .slice B112999_2 (rd_T107 t3.1.f2 2).f2.length d112999_2]] (by rfl) rfl rfl (by simp only [List.map_toArray, List.map_cons, List.map_nil]; rfl) ?_; refine (impl_opener_num_0.calls ht114001.out y112999_2 m112999_2 (hV.lend HS HL) HA).mono ?_; rintro _ wt114001 ⟨rfl, HQ⟩; refine ⟨_, rfl, ?_⟩; replace HS : Hp A19 wt15 _ [.box g2 [.slice none 0 0, .int .i64 0, .int .i64 0, .int .i64 0, .int .i64 0, .bool false] 67, .box g20 [.bool t114001.2.f0] 133, .own (Zd.slice 9 Zd.string) t104001.1 [.slice B104002 t104001.1.length d104002], .box g8 [.slice none 0 0, .int .i64 0, .int .i64 0, .int .i64 0, .int .i64 0, .bool false] 67] := HB _ _ HQ (Nat.le_of_ble_eq_true rfl); clear HQ HA HB HL HD; (try clear F)
             replace HS : Hp A19 wt15 _ [.box g2 [.slice none 0 0, .int .i64 0, .int .i64 0, .int .i64 0, .int .i64 0, .bool false] 67, .box g20 [.bool t114001.2.f0] 133, .own (Zd.slice 9 Zd.string) t104001.1 [.slice B104002 t104001.1.length d104002], .box g8 [.slice none 0 0, .int .i64 0, .int .i64 0, .int .i64 0, .int .i64 0, .bool false] 67] := HS
             have F := HS.boxes; simp only [boxFacts, and_true] at F
             refine hK.out _ _ ⟨[], HS.arr [some 0, none] (by decide)⟩ (fun HH => ?_)
             clear hK K
             refine norm_ (a' := ?_) ?_ ?_
             rotate_left
             · show Act.put _ (some 38) _ = _; simp only [Act.put, List.setIfInBounds_toArray, List.set_cons_zero, List.set_cons_succ, i64_w, i32_w, c12, c18]; rfl
             refine dr_one 19 HT rfl (by kernel_rfl) (by decide) (fun K hK => ?_)
             refine HS.lend [1] (by decide) [.box g20 [.bool t114001.2.f0] 133] rfl (fun A' HL HD HA HB => ?_); refine goes_ Try.func93 (by kernel_rfl) rfl #[.pointer (some ⟨g20, 0, none⟩), .agg #[.int .i64 ((rd_T107 t3.1.f2 3).f0), .string ((rd_T107 t3.1.f2 3).f1), .slice B117999_2 (rd_T107 t3.1.f2 3).f2.length d117999_2]] (by rfl) rfl rfl (by simp only [List.map_toArray, List.map_cons, List.map_nil]; rfl) ?_; refine (impl_opener_num_0.calls ht119001.out y117999_2 m117999_2 (hV.lend HS HL) HA).mono ?_; rintro _ wt119001 ⟨rfl, HQ⟩; refine ⟨_, rfl, ?_⟩; replace HS : Hp A19 wt15 _ [.box g2 [.slice none 0 0, .int .i64 0, .int .i64 0, .int .i64 0, .int .i64 0, .bool false] 67, .box g20 [.bool t119001.2.f0] 133, .own (Zd.slice 9 Zd.string) t104001.1 [.slice B104002 t104001.1.length d104002], .box g8 [.slice none 0 0, .int .i64 0, .int .i64 0, .int .i64 0, .int .i64 0, .bool false] 67] := HB _ _ HQ (Nat.le_of_ble_eq_true rfl); clear HQ HA HB HL HD; (try clear F)
             replace HS : Hp A19 wt15 _ [.box g2 [.slice none 0 0, .int .i64 0, .int .i64 0, .int .i64 0, .int .i64 0, .bool false] 67, .box g20 [.bool t119001.2.f0] 133, .own (Zd.slice 9 Zd.string) t104001.1 [.slice B104002 t104001.1.length d104002], .box g8 [.slice none 0 0, .int .i64 0, .int .i64 0, .int .i64 0, .int .i64 0, .bool false] 67] := HS
             have F := HS.boxes; simp only [boxFacts, and_true] at F
             refine hK.out _ _ ⟨[], HS.arr [some 0, none] (by decide)⟩ (fun HH => ?_)
             clear hK K
             refine norm_ (a' := ?_) ?_ ?_
             rotate_left
             · show Act.put _ (some 43) _ = _; simp only [Act.put, List.setIfInBounds_toArray, List.set_cons_zero, List.set_cons_succ, i64_w, i32_w, c12, c18]; rfl
             refine dr_one 24 HT rfl (by kernel_rfl) (by decide) (fun K hK => ?_)
             refine HS.lend [1] (by decide) [.box g20 [.bool t119001.2.f0] 133] rfl (fun A' HL HD HA HB => ?_); refine goes_ Try.func93 (by kernel_rfl) rfl #[.pointer (some ⟨g20, 0, none⟩), .agg #[.int .i64 ((rd_T107 t3.1.f2 4).f0), .string ((rd_T107 t3.1.f2 4).f1), .slice B122999_2 (rd_T107 t3.1.f2 4).f2.length d122999_2]] (by rfl) rfl rfl (by simp only [List.map_toArray, List.map_cons, List.map_nil]; rfl) ?_; refine (impl_opener_num_0.calls ht124001.out y122999_2 m122999_2 (hV.lend HS HL) HA).mono ?_; rintro _ wt124001 ⟨rfl, HQ⟩; refine ⟨_, rfl, ?_⟩; replace HS : Hp A19 wt15 _ [.box g2 [.slice none 0 0, .int .i64 0, .int .i64 0, .int .i64 0, .int .i64 0, .bool false] 67, .box g20 [.bool t124001.2.f0] 133, .own (Zd.slice 9 Zd.string) t104001.1 [.slice B104002 t104001.1.length d104002], .box g8 [.slice none 0 0, .int .i64 0, .int .i64 0, .int .i64 0, .int .i64 0, .bool false] 67] := HB _ _ HQ (Nat.le_of_ble_eq_true rfl); clear HQ HA HB HL HD; (try clear F)
             replace HS : Hp A19 wt15 _ [.box g2 [.slice none 0 0, .int .i64 0, .int .i64 0, .int .i64 0, .int .i64 0, .bool false] 67, .box g20 [.bool t124001.2.f0] 133, .own (Zd.slice 9 Zd.string) t104001.1 [.slice B104002 t104001.1.length d104002], .box g8 [.slice none 0 0, .int .i64 0, .int .i64 0, .int .i64 0, .int .i64 0, .bool false] 67] := HS
             have F := HS.boxes; simp only [boxFacts, and_true] at F
             refine hK.out _ _ ⟨[], HS.arr [some 0, none] (by decide)⟩ (fun HH => ?_)
             clear hK K
             refine norm_ (a' := ?_) ?_ ?_
             rotate_left
             · show Act.put _ (some 48) _ = _; simp only [Act.put, List.setIfInBounds_toArray, List.set_cons_zero, List.set_cons_succ, i64_w, i32_w, c12, c18]; rfl
             refine dr_one 29 HT rfl (by kernel_rfl) (by decide) (fun K hK => ?_)
             refine HS.lend [1] (by decide) [.box g20 [.bool t124001.2.f0] 133] rfl (fun A' HL HD HA HB => ?_); refine goes_ Try.func94 (by kernel_rfl) rfl #[.pointer (some ⟨g20, 0, none⟩), .agg #[.int .i64 ((rd_T107 t3.1.f2 5).f0), .string ((rd_T107 t3.1.f2 5).f1), .slice B127999_2 (rd_T107 t3.1.f2 5).f2.length d127999_2]] (by rfl) rfl rfl (by simp only [List.map_toArray, List.map_cons, List.map_nil]; rfl) ?_; refine (impl_opener_flag_0.calls ht129001.out y127999_2 m127999_2 (hV.lend HS HL) HA).mono ?_; rintro _ wt129001 ⟨rfl, HQ⟩; refine ⟨_, rfl, ?_⟩; replace HS : Hp A19 wt15 _ [.box g2 [.slice none 0 0, .int .i64 0, .int .i64 0, .int .i64 0, .int .i64 0, .bool false] 67, .box g20 [.bool t129001.2.f0] 133, .own (Zd.slice 9 Zd.string) t104001.1 [.slice B104002 t104001.1.length d104002], .box g8 [.slice none 0 0, .int .i64 0, .int .i64 0, .int .i64 0, .int .i64 0, .bool false] 67] := HB _ _ HQ (Nat.le_of_ble_eq_true rfl); clear HQ HA HB HL HD; (try clear F)
             replace HS : Hp A19 wt15 _ [.box g2 [.slice none 0 0, .int .i64 0, .int .i64 0, .int .i64 0, .int .i64 0, .bool false] 67, .box g20 [.bool t129001.2.f0] 133, .own (Zd.slice 9 Zd.string) t104001.1 [.slice B104002 t104001.1.length d104002], .box g8 [.slice none 0 0, .int .i64 0, .int .i64 0, .int .i64 0, .int .i64 0, .bool false] 67] := HS
             have F := HS.boxes; simp only [boxFacts, and_true] at F
             refine hK.out _ _ ⟨[], HS.arr [some 0, none] (by decide)⟩ (fun HH => ?_)
             clear hK K
             refine norm_ (a' := ?_) ?_ ?_
             rotate_left
             · show Act.put _ (some 53) _ = _; simp only [Act.put, List.setIfInBounds_toArray, List.set_cons_zero, List.set_cons_succ, i64_w, i32_w, c12, c18]; rfl
             refine drq_of [(30, some 54)] ?_
             repeat (first | (refine drq_pure HT (v := ?_) (a' := ?_) rfl rfl (by kernel_rfl) (fun _ _ _ h => h) (.inl ⟨by rfl, ?_⟩) ?_ ?_; rotate_left; (intro w'; go_simp; with_reducible rfl); rotate_left; (simp only [Act.put, List.setIfInBounds_toArray, List.set_cons_zero, List.set_cons_succ, i64_w, i32_w]; rfl)))
             refine drq_end ?_
             refine dr_last 32 HT rfl (by kernel_rfl) (by decide) (fun K hK => ?_)
             refine if_wp (by rfl) ?_; refine wp_store 3 0 HS (seg := [.slice B104002 t104001.1.length d104002, .int .i64 t109001.1, .int .i64 t114001.1, .int .i64 t119001.1, .int .i64 t124001.1, .bool t129001.1]) rfl rfl rfl rfl rfl rfl (by kernel_rfl) (by simp [wrt]) (by simp [Value.oneCell']) ?_; clear HS; (try clear F); intro w132001 HS
             replace HS : Hp A19 wt15 _ [.box g2 [.slice none 0 0, .int .i64 0, .int .i64 0, .int .i64 0, .int .i64 0, .bool false] 67, .box g20 [.bool t129001.2.f0] 133, .own (Zd.slice 9 Zd.string) t104001.1 [.slice B104002 t104001.1.length d104002], .box g8 [.slice B104002 t104001.1.length d104002, .int .i64 t109001.1, .int .i64 t114001.1, .int .i64 t119001.1, .int .i64 t124001.1, .bool t129001.1] 67] := HS
             have F := HS.boxes; simp only [boxFacts, and_true] at F
             refine hK.out _ _ ?_
             clear hK K
             refine norm_ ?_ (hJ (.slice B104002 t104001.1.length d104002, g8, .pointer (some ad102999), .agg #[.int .i64 ((rd_T107 t3.1.f2 0).f0), .string ((rd_T107 t3.1.f2 0).f1), .slice B102999_2 (rd_T107 t3.1.f2 0).f2.length d102999_2], .pointer (some (ad102999.add 3)), .agg #[.int .i64 ((rd_T107 t3.1.f2 1).f0), .string ((rd_T107 t3.1.f2 1).f1), .slice B107999_2 (rd_T107 t3.1.f2 1).f2.length d107999_2], .pointer (some (ad102999.add 6)), .agg #[.int .i64 ((rd_T107 t3.1.f2 2).f0), .string ((rd_T107 t3.1.f2 2).f1), .slice B112999_2 (rd_T107 t3.1.f2 2).f2.length d112999_2], .pointer (some (ad102999.add 9)), .agg #[.int .i64 ((rd_T107 t3.1.f2 3).f0), .string ((rd_T107 t3.1.f2 3).f1), .slice B117999_2 (rd_T107 t3.1.f2 3).f2.length d117999_2], .pointer (some (ad102999.add 12)), .agg #[.int .i64 ((rd_T107 t3.1.f2 4).f0), .string ((rd_T107 t3.1.f2 4).f1), .slice B122999_2 (rd_T107 t3.1.f2 4).f2.length d122999_2], .pointer (some (ad102999.add 15)), .agg #[.int .i64 ((rd_T107 t3.1.f2 5).f0), .string ((rd_T107 t3.1.f2 5).f1), .slice B127999_2 (rd_T107 t3.1.f2 5).f2.length d127999_2]) _ (HS.arr [some 0, some 1, some 2, some 3] (by decide)))
             simp only [putAll, Act.put, List.setIfInBounds_toArray, List.set_cons_zero, List.set_cons_succ, i64_w, i32_w, c12, c18]
             (try rfl)
         · refine if_wp (by rfl) ?_; refine wp_box HS (by first | (go_simp; done) | (go_simp; rfl)) rfl ?_; clear HS; (try clear F); intro g8 w8 HS
           replace HS : Hp A19 wt15 _ [.box g2 [.slice none 0 0, .int .i64 0, .int .i64 0, .int .i64 0, .int .i64 0, .bool false] 67, .box g20 [.bool t104001.2.f0] 133, .own (Zd.slice 9 Zd.string) t104001.1 [.slice B104002 t104001.1.length d104002], .box g8 [.slice none 0 0, .int .i64 0, .int .i64 0, .int .i64 0, .int .i64 0, .bool false] 67] := HS
           have F := HS.boxes; simp only [boxFacts, and_true] at F
           refine hK.out _ _ ⟨[], HS.arr [some 0, none] (by decide)⟩ (fun HH => ?_)
           clear hK K
           refine norm_ (a' := ?_) ?_ ?_
           rotate_left
           · show Act.put _ (some 8) _ = _; simp only [Act.put, List.setIfInBounds_toArray, List.set_cons_zero, List.set_cons_succ, i64_w, i32_w, c12, c18]; rfl
           refine dr_one 9 HT rfl (by kernel_rfl) (by decide) (fun K hK => ?_)
           refine HS.lend [1] (by decide) [.box g20 [.bool t104001.2.f0] 133] rfl (fun A' HL HD HA HB => ?_); refine goes_ Try.func93 (by kernel_rfl) rfl #[.pointer (some ⟨g20, 0, none⟩), .agg #[.int .i64 ((rd_T107 t3.1.f2 1).f0), .string ((rd_T107 t3.1.f2 1).f1), .slice B107999_2 (rd_T107 t3.1.f2 1).f2.length d107999_2]] (by rfl) rfl rfl (by simp only [List.map_toArray, List.map_cons, List.map_nil]; rfl) ?_; refine (impl_opener_num_0.calls ht109001.out y107999_2 m107999_2 (hV.lend HS HL) HA).mono ?_; rintro _ wt109001 ⟨rfl, HQ⟩; refine ⟨_, rfl, ?_⟩; replace HS : Hp A19 wt15 _ [.box g2 [.slice none 0 0, .int .i64 0, .int .i64 0, .int .i64 0, .int .i64 0, .bool false] 67, .box g20 [.bool t109001.2.f0] 133, .own (Zd.slice 9 Zd.string) t104001.1 [.slice B104002 t104001.1.length d104002], .box g8 [.slice none 0 0, .int .i64 0, .int .i64 0, .int .i64 0, .int .i64 0, .bool false] 67] := HB _ _ HQ (Nat.le_of_ble_eq_true rfl); clear HQ HA HB HL HD; (try clear F)
           replace HS : Hp A19 wt15 _ [.box g2 [.slice none 0 0, .int .i64 0, .int .i64 0, .int .i64 0, .int .i64 0, .bool false] 67, .box g20 [.bool t109001.2.f0] 133, .own (Zd.slice 9 Zd.string) t104001.1 [.slice B104002 t104001.1.length d104002], .box g8 [.slice none 0 0, .int .i64 0, .int .i64 0, .int .i64 0, .int .i64 0, .bool false] 67] := HS
           have F := HS.boxes; simp only [boxFacts, and_true] at F
           refine hK.out _ _ ⟨[], HS.arr [some 0, none] (by decide)⟩ (fun HH => ?_)
           clear hK K
           refine norm_ (a' := ?_) ?_ ?_
           rotate_left
           · show Act.put _ (some 33) _ = _; simp only [Act.put, List.setIfInBounds_toArray, List.set_cons_zero, List.set_cons_succ, i64_w, i32_w, c12, c18]; rfl
           refine dr_one 14 HT rfl (by kernel_rfl) (by decide) (fun K hK => ?_)
           refine HS.lend [1] (by decide) [.box g20 [.bool t109001.2.f0] 133] rfl (fun A' HL HD HA HB => ?_); refine goes_ Try.func93 (by kernel_rfl) rfl #[.pointer (some ⟨g20, 0, none⟩), .agg #[.int .i64 ((rd_T107 t3.1.f2 2).f0), .string ((rd_T107 t3.1.f2 2).f1), .slice B112999_2 (rd_T107 t3.1.f2 2).f2.length d112999_2]] (by rfl) rfl rfl (by simp only [List.map_toArray, List.map_cons, List.map_nil]; rfl) ?_; refine (impl_opener_num_0.calls ht114001.out y112999_2 m112999_2 (hV.lend HS HL) HA).mono ?_; rintro _ wt114001 ⟨rfl, HQ⟩; refine ⟨_, rfl, ?_⟩; replace HS : Hp A19 wt15 _ [.box g2 [.slice none 0 0, .int .i64 0, .int .i64 0, .int .i64 0, .int .i64 0, .bool false] 67, .box g20 [.bool t114001.2.f0] 133, .own (Zd.slice 9 Zd.string) t104001.1 [.slice B104002 t104001.1.length d104002], .box g8 [.slice none 0 0, .int .i64 0, .int .i64 0, .int .i64 0, .int .i64 0, .bool false] 67] := HB _ _ HQ (Nat.le_of_ble_eq_true rfl); clear HQ HA HB HL HD; (try clear F)
           replace HS : Hp A19 wt15 _ [.box g2 [.slice none 0 0, .int .i64 0, .int .i64 0, .int .i64 0, .int .i64 0, .bool false] 67, .box g20 [.bool t114001.2.f0] 133, .own (Zd.slice 9 Zd.string) t104001.1 [.slice B104002 t104001.1.length d104002], .box g8 [.slice none 0 0, .int .i64 0, .int .i64 0, .int .i64 0, .int .i64 0, .bool false] 67] := HS
           have F := HS.boxes; simp only [boxFacts, and_true] at F
           refine hK.out _ _ ⟨[], HS.arr [some 0, none] (by decide)⟩ (fun HH => ?_)
           clear hK K
           refine norm_ (a' := ?_) ?_ ?_
           rotate_left
           · show Act.put _ (some 38) _ = _; simp only [Act.put, List.setIfInBounds_toArray, List.set_cons_zero, List.set_cons_succ, i64_w, i32_w, c12, c18]; rfl
           refine dr_one 19 HT rfl (by kernel_rfl) (by decide) (fun K hK => ?_)
           refine HS.lend [1] (by decide) [.box g20 [.bool t114001.2.f0] 133] rfl (fun A' HL HD HA HB => ?_); refine goes_ Try.func93 (by kernel_rfl) rfl #[.pointer (some ⟨g20, 0, none⟩), .agg #[.int .i64 ((rd_T107 t3.1.f2 3).f0), .string ((rd_T107 t3.1.f2 3).f1), .slice B117999_2 (rd_T107 t3.1.f2 3).f2.length d117999_2]] (by rfl) rfl rfl (by simp only [List.map_toArray, List.map_cons, List.map_nil]; rfl) ?_; refine (impl_opener_num_0.calls ht119001.out y117999_2 m117999_2 (hV.lend HS HL) HA).mono ?_; rintro _ wt119001 ⟨rfl, HQ⟩; refine ⟨_, rfl, ?_⟩; replace HS : Hp A19 wt15 _ [.box g2 [.slice none 0 0, .int .i64 0, .int .i64 0, .int .i64 0, .int .i64 0, .bool false] 67, .box g20 [.bool t119001.2.f0] 133, .own (Zd.slice 9 Zd.string) t104001.1 [.slice B104002 t104001.1.length d104002], .box g8 [.slice none 0 0, .int .i64 0, .int .i64 0, .int .i64 0, .int .i64 0, .bool false] 67] := HB _ _ HQ (Nat.le_of_ble_eq_true rfl); clear HQ HA HB HL HD; (try clear F)
           replace HS : Hp A19 wt15 _ [.box g2 [.slice none 0 0, .int .i64 0, .int .i64 0, .int .i64 0, .int .i64 0, .bool false] 67, .box g20 [.bool t119001.2.f0] 133, .own (Zd.slice 9 Zd.string) t104001.1 [.slice B104002 t104001.1.length d104002], .box g8 [.slice none 0 0, .int .i64 0, .int .i64 0, .int .i64 0, .int .i64 0, .bool false] 67] := HS
           have F := HS.boxes; simp only [boxFacts, and_true] at F
           refine hK.out _ _ ⟨[], HS.arr [some 0, none] (by decide)⟩ (fun HH => ?_)
           clear hK K
           refine norm_ (a' := ?_) ?_ ?_
           rotate_left
           · show Act.put _ (some 43) _ = _; simp only [Act.put, List.setIfInBounds_toArray, List.set_cons_zero, List.set_cons_succ, i64_w, i32_w, c12, c18]; rfl
           refine dr_one 24 HT rfl (by kernel_rfl) (by decide) (fun K hK => ?_)
           refine HS.lend [1] (by decide) [.box g20 [.bool t119001.2.f0] 133] rfl (fun A' HL HD HA HB => ?_); refine goes_ Try.func93 (by kernel_rfl) rfl #[.pointer (some ⟨g20, 0, none⟩), .agg #[.int .i64 ((rd_T107 t3.1.f2 4).f0), .string ((rd_T107 t3.1.f2 4).f1), .slice B122999_2 (rd_T107 t3.1.f2 4).f2.length d122999_2]] (by rfl) rfl rfl (by simp only [List.map_toArray, List.map_cons, List.map_nil]; rfl) ?_; refine (impl_opener_num_0.calls ht124001.out y122999_2 m122999_2 (hV.lend HS HL) HA).mono ?_; rintro _ wt124001 ⟨rfl, HQ⟩; refine ⟨_, rfl, ?_⟩; replace HS : Hp A19 wt15 _ [.box g2 [.slice none 0 0, .int .i64 0, .int .i64 0, .int .i64 0, .int .i64 0, .bool false] 67, .box g20 [.bool t124001.2.f0] 133, .own (Zd.slice 9 Zd.string) t104001.1 [.slice B104002 t104001.1.length d104002], .box g8 [.slice none 0 0, .int .i64 0, .int .i64 0, .int .i64 0, .int .i64 0, .bool false] 67] := HB _ _ HQ (Nat.le_of_ble_eq_true rfl); clear HQ HA HB HL HD; (try clear F)
           replace HS : Hp A19 wt15 _ [.box g2 [.slice none 0 0, .int .i64 0, .int .i64 0, .int .i64 0, .int .i64 0, .bool false] 67, .box g20 [.bool t124001.2.f0] 133, .own (Zd.slice 9 Zd.string) t104001.1 [.slice B104002 t104001.1.length d104002], .box g8 [.slice none 0 0, .int .i64 0, .int .i64 0, .int .i64 0, .int .i64 0, .bool false] 67] := HS
           have F := HS.boxes; simp only [boxFacts, and_true] at F
           refine hK.out _ _ ⟨[], HS.arr [some 0, none] (by decide)⟩ (fun HH => ?_)
           clear hK K
           refine norm_ (a' := ?_) ?_ ?_
           rotate_left
           · show Act.put _ (some 48) _ = _; simp only [Act.put, List.setIfInBounds_toArray, List.set_cons_zero, List.set_cons_succ, i64_w, i32_w, c12, c18]; rfl
           refine dr_one 29 HT rfl (by kernel_rfl) (by decide) (fun K hK => ?_)
           refine HS.lend [1] (by decide) [.box g20 [.bool t124001.2.f0] 133] rfl (fun A' HL HD HA HB => ?_); refine goes_ Try.func94 (by kernel_rfl) rfl #[.pointer (some ⟨g20, 0, none⟩), .agg #[.int .i64 ((rd_T107 t3.1.f2 5).f0), .string ((rd_T107 t3.1.f2 5).f1), .slice B127999_2 (rd_T107 t3.1.f2 5).f2.length d127999_2]] (by rfl) rfl rfl (by simp only [List.map_toArray, List.map_cons, List.map_nil]; rfl) ?_; refine (impl_opener_flag_0.calls ht129001.out y127999_2 m127999_2 (hV.lend HS HL) HA).mono ?_; rintro _ wt129001 ⟨rfl, HQ⟩; refine ⟨_, rfl, ?_⟩; replace HS : Hp A19 wt15 _ [.box g2 [.slice none 0 0, .int .i64 0, .int .i64 0, .int .i64 0, .int .i64 0, .bool false] 67, .box g20 [.bool t129001.2.f0] 133, .own (Zd.slice 9 Zd.string) t104001.1 [.slice B104002 t104001.1.length d104002], .box g8 [.slice none 0 0, .int .i64 0, .int .i64 0, .int .i64 0, .int .i64 0, .bool false] 67] := HB _ _ HQ (Nat.le_of_ble_eq_true rfl); clear HQ HA HB HL HD; (try clear F)
           replace HS : Hp A19 wt15 _ [.box g2 [.slice none 0 0, .int .i64 0, .int .i64 0, .int .i64 0, .int .i64 0, .bool false] 67, .box g20 [.bool t129001.2.f0] 133, .own (Zd.slice 9 Zd.string) t104001.1 [.slice B104002 t104001.1.length d104002], .box g8 [.slice none 0 0, .int .i64 0, .int .i64 0, .int .i64 0, .int .i64 0, .bool false] 67] := HS
           have F := HS.boxes; simp only [boxFacts, and_true] at F
           refine hK.out _ _ ⟨[], HS.arr [some 0, none] (by decide)⟩ (fun HH => ?_)
           clear hK K
           refine norm_ (a' := ?_) ?_ ?_
           rotate_left
           · show Act.put _ (some 53) _ = _; simp only [Act.put, List.setIfInBounds_toArray, List.set_cons_zero, List.set_cons_succ, i64_w, i32_w, c12, c18]; rfl
           refine drq_of [(30, some 54)] ?_
           repeat (first | (refine drq_pure HT (v := ?_) (a' := ?_) rfl rfl (by kernel_rfl) (fun _ _ _ h => h) (.inl ⟨by rfl, ?_⟩) ?_ ?_; rotate_left; (intro w'; go_simp; with_reducible rfl); rotate_left; (simp only [Act.put, List.setIfInBounds_toArray, List.set_cons_zero, List.set_cons_succ, i64_w, i32_w]; rfl)))
           refine drq_end ?_
           refine dr_last 32 HT rfl (by kernel_rfl) (by decide) (fun K hK => ?_)
           refine if_wp (by rfl) ?_; refine wp_store 3 0 HS (seg := [.slice B104002 t104001.1.length d104002, .int .i64 t109001.1, .int .i64 t114001.1, .int .i64 t119001.1, .int .i64 t124001.1, .bool t129001.1]) rfl rfl rfl rfl rfl rfl (by kernel_rfl) (by simp [wrt]) (by simp [Value.oneCell']) ?_; clear HS; (try clear F); intro w132001 HS
           replace HS : Hp A19 wt15 _ [.box g2 [.slice none 0 0, .int .i64 0, .int .i64 0, .int .i64 0, .int .i64 0, .bool false] 67, .box g20 [.bool t129001.2.f0] 133, .own (Zd.slice 9 Zd.string) t104001.1 [.slice B104002 t104001.1.length d104002], .box g8 [.slice B104002 t104001.1.length d104002, .int .i64 t109001.1, .int .i64 t114001.1, .int .i64 t119001.1, .int .i64 t124001.1, .bool t129001.1] 67] := HS
           have F := HS.boxes; simp only [boxFacts, and_true] at F
           refine hK.out _ _ ?_
           clear hK K
           refine norm_ ?_ (hJ (.slice B104002 t104001.1.length d104002, g8, .pointer (some ad102999), .agg #[.int .i64 ((rd_T107 t3.1.f2 0).f0), .string ((rd_T107 t3.1.f2 0).f1), .slice B102999_2 (rd_T107 t3.1.f2 0).f2.length d102999_2], .pointer (some (ad102999.add 3)), .agg #[.int .i64 ((rd_T107 t3.1.f2 1).f0), .string ((rd_T107 t3.1.f2 1).f1), .slice B107999_2 (rd_T107 t3.1.f2 1).f2.length d107999_2], .pointer (some (ad102999.add 6)), .agg #[.int .i64 ((rd_T107 t3.1.f2 2).f0), .string ((rd_T107 t3.1.f2 2).f1), .slice B112999_2 (rd_T107 t3.1.f2 2).f2.length d112999_2], .pointer (some (ad102999.add 9)), .agg #[.int .i64 ((rd_T107 t3.1.f2 3).f0), .string ((rd_T107 t3.1.f2 3).f1), .slice B117999_2 (rd_T107 t3.1.f2 3).f2.length d117999_2], .pointer (some (ad102999.add 12)), .agg #[.int .i64 ((rd_T107 t3.1.f2 4).f0), .string ((rd_T107 t3.1.f2 4).f1), .slice B122999_2 (rd_T107 t3.1.f2 4).f2.length d122999_2], .pointer (some (ad102999.add 15)), .agg #[.int .i64 ((rd_T107 t3.1.f2 5).f0), .string ((rd_T107 t3.1.f2 5).f1), .slice B127999_2 (rd_T107 t3.1.f2 5).f2.length d127999_2]) _ (HS.arr [some 0, some 1, some 2, some 3] (by decide)))
           simp only [putAll, Act.put, List.setIfInBounds_toArray, List.set_cons_zero, List.set_cons_succ, i64_w, i32_w, c12, c18]
           (try rfl)
       · refine if_wp (by rfl) ?_; refine wp_box HS (by first | (go_simp; done) | (go_simp; rfl)) rfl ?_; clear HS; (try clear F); intro g8 w8 HS
         replace HS : Hp A19 wt15 _ [.box g2 [.slice none 0 0, .int .i64 0, .int .i64 0, .int .i64 0, .int .i64 0, .bool false] 67, .box g20 [.bool t15.2.f0] 133, .box g8 [.slice none 0 0, .int .i64 0, .int .i64 0, .int .i64 0, .int .i64 0, .bool false] 67] := HS
         have F := HS.boxes; simp only [boxFacts, and_true] at F
         refine hK.out _ _ ⟨[], HS.arr [some 0, none] (by decide)⟩ (fun HH => ?_)
         clear hK K
         refine norm_ (a' := ?_) ?_ ?_
         rotate_left
         · show Act.put _ (some 8) _ = _; simp only [Act.put, List.setIfInBounds_toArray, List.set_cons_zero, List.set_cons_succ, i64_w, i32_w, c12, c18]; rfl
         refine dr_one 4 HT rfl (by kernel_rfl) (by decide) (fun K hK => ?_)
         refine HS.lend [1] (by decide) [.box g20 [.bool t15.2.f0] 133] rfl (fun A' HL HD HA HB => ?_); refine goes_ Try.func92 (by kernel_rfl) rfl #[.pointer (some ⟨g20, 0, none⟩), .agg #[.int .i64 ((rd_T107 t3.1.f2 0).f0), .string ((rd_T107 t3.1.f2 0).f1), .slice B102999_2 (rd_T107 t3.1.f2 0).f2.length d102999_2], .int .i64 4] (by rfl) rfl rfl (by simp only [List.map_toArray, List.map_cons, List.map_nil]; rfl) ?_; refine (impl_opener_texts_0.calls ht104001.out y102999_2 m102999_2 (hV.lend HS HL) HA).mono ?_; rintro _ wt104001 ⟨v104002, rfl, HQ⟩; refine ⟨_, rfl, ?_⟩; replace HS : Hp A19 wt15 _ [.box g2 [.slice none 0 0, .int .i64 0, .int .i64 0, .int .i64 0, .int .i64 0, .bool false] 67, .box g20 [.bool t104001.2.f0] 133, .box g8 [.slice none 0 0, .int .i64 0, .int .i64 0, .int .i64 0, .int .i64 0, .bool false] 67, .own (Zd.slice 9 Zd.string) t104001.1 [v104002]] := HB _ _ HQ (Nat.le_of_ble_eq_true rfl); clear HQ HA HB HL HD; (try clear F); obtain ⟨B104002, d104002, rfl, m104002⟩ := HS.form 3 rfl
         replace HS : Hp A19 wt15 _ [.box g2 [.slice none 0 0, .int .i64 0, .int .i64 0, .int .i64 0, .int .i64 0, .bool false] 67, .box g20 [.bool t104001.2.f0] 133, .box g8 [.slice none 0 0, .int .i64 0, .int .i64 0, .int .i64 0, .int .i64 0, .bool false] 67, .own (Zd.slice 9 Zd.string) t104001.1 [.slice B104002 t104001.1.length d104002]] := HS
         have F := HS.boxes; simp only [boxFacts, and_true] at F
         refine hK.out _ _ ⟨[], HS.arr [some 0, none] (by decide)⟩ (fun HH => ?_)
         clear hK K
         refine norm_ (a' := ?_) ?_ ?_
         rotate_left
         · show Act.put _ (some 28) _ = _; simp only [Act.put, List.setIfInBounds_toArray, List.set_cons_zero, List.set_cons_succ, i64_w, i32_w, c12, c18]; rfl
         refine dr_one 9 HT rfl (by kernel_rfl) (by decide) (fun K hK => ?_)
         refine HS.lend [1] (by decide) [.box g20 [.bool t104001.2.f0] 133] rfl (fun A' HL HD HA HB => ?_); refine goes_ Try.func93 (by kernel_rfl) rfl #[.pointer (some ⟨g20, 0, none⟩), .agg #[.int .i64 ((rd_T107 t3.1.f2 1).f0), .string ((rd_T107 t3.1.f2 1).f1), .slice B107999_2 (rd_T107 t3.1.f2 1).f2.length d107999_2]] (by rfl) rfl rfl (by simp only [List.map_toArray, List.map_cons, List.map_nil]; rfl) ?_; refine (impl_opener_num_0.calls ht109001.out y107999_2 m107999_2 (hV.lend HS HL) HA).mono ?_; rintro _ wt109001 ⟨rfl, HQ⟩; refine ⟨_, rfl, ?_⟩; replace HS : Hp A19 wt15 _ [.box g2 [.slice none 0 0, .int .i64 0, .int .i64 0, .int .i64 0, .int .i64 0, .bool false] 67, .box g20 [.bool t109001.2.f0] 133, .box g8 [.slice none 0 0, .int .i64 0, .int .i64 0, .int .i64 0, .int .i64 0, .bool false] 67, .own (Zd.slice 9 Zd.string) t104001.1 [.slice B104002 t104001.1.length d104002]] := HB _ _ HQ (Nat.le_of_ble_eq_true rfl); clear HQ HA HB HL HD; (try clear F)
         replace HS : Hp A19 wt15 _ [.box g2 [.slice none 0 0, .int .i64 0, .int .i64 0, .int .i64 0, .int .i64 0, .bool false] 67, .box g20 [.bool t109001.2.f0] 133, .box g8 [.slice none 0 0, .int .i64 0, .int .i64 0, .int .i64 0, .int .i64 0, .bool false] 67, .own (Zd.slice 9 Zd.string) t104001.1 [.slice B104002 t104001.1.length d104002]] := HS
         have F := HS.boxes; simp only [boxFacts, and_true] at F
         refine hK.out _ _ ⟨[], HS.arr [some 0, none] (by decide)⟩ (fun HH => ?_)
         clear hK K
         refine norm_ (a' := ?_) ?_ ?_
         rotate_left
         · show Act.put _ (some 33) _ = _; simp only [Act.put, List.setIfInBounds_toArray, List.set_cons_zero, List.set_cons_succ, i64_w, i32_w, c12, c18]; rfl
         refine dr_one 14 HT rfl (by kernel_rfl) (by decide) (fun K hK => ?_)
         refine HS.lend [1] (by decide) [.box g20 [.bool t109001.2.f0] 133] rfl (fun A' HL HD HA HB => ?_); refine goes_ Try.func93 (by kernel_rfl) rfl #[.pointer (some ⟨g20, 0, none⟩), .agg #[.int .i64 ((rd_T107 t3.1.f2 2).f0), .string ((rd_T107 t3.1.f2 2).f1), .slice B112999_2 (rd_T107 t3.1.f2 2).f2.length d112999_2]] (by rfl) rfl rfl (by simp only [List.map_toArray, List.map_cons, List.map_nil]; rfl) ?_; refine (impl_opener_num_0.calls ht114001.out y112999_2 m112999_2 (hV.lend HS HL) HA).mono ?_; rintro _ wt114001 ⟨rfl, HQ⟩; refine ⟨_, rfl, ?_⟩; replace HS : Hp A19 wt15 _ [.box g2 [.slice none 0 0, .int .i64 0, .int .i64 0, .int .i64 0, .int .i64 0, .bool false] 67, .box g20 [.bool t114001.2.f0] 133, .box g8 [.slice none 0 0, .int .i64 0, .int .i64 0, .int .i64 0, .int .i64 0, .bool false] 67, .own (Zd.slice 9 Zd.string) t104001.1 [.slice B104002 t104001.1.length d104002]] := HB _ _ HQ (Nat.le_of_ble_eq_true rfl); clear HQ HA HB HL HD; (try clear F)
         replace HS : Hp A19 wt15 _ [.box g2 [.slice none 0 0, .int .i64 0, .int .i64 0, .int .i64 0, .int .i64 0, .bool false] 67, .box g20 [.bool t114001.2.f0] 133, .box g8 [.slice none 0 0, .int .i64 0, .int .i64 0, .int .i64 0, .int .i64 0, .bool false] 67, .own (Zd.slice 9 Zd.string) t104001.1 [.slice B104002 t104001.1.length d104002]] := HS
         have F := HS.boxes; simp only [boxFacts, and_true] at F
         refine hK.out _ _ ⟨[], HS.arr [some 0, none] (by decide)⟩ (fun HH => ?_)
         clear hK K
         refine norm_ (a' := ?_) ?_ ?_
         rotate_left
         · show Act.put _ (some 38) _ = _; simp only [Act.put, List.setIfInBounds_toArray, List.set_cons_zero, List.set_cons_succ, i64_w, i32_w, c12, c18]; rfl
         refine dr_one 19 HT rfl (by kernel_rfl) (by decide) (fun K hK => ?_)
         refine HS.lend [1] (by decide) [.box g20 [.bool t114001.2.f0] 133] rfl (fun A' HL HD HA HB => ?_); refine goes_ Try.func93 (by kernel_rfl) rfl #[.pointer (some ⟨g20, 0, none⟩), .agg #[.int .i64 ((rd_T107 t3.1.f2 3).f0), .string ((rd_T107 t3.1.f2 3).f1), .slice B117999_2 (rd_T107 t3.1.f2 3).f2.length d117999_2]] (by rfl) rfl rfl (by simp only [List.map_toArray, List.map_cons, List.map_nil]; rfl) ?_; refine (impl_opener_num_0.calls ht119001.out y117999_2 m117999_2 (hV.lend HS HL) HA).mono ?_; rintro _ wt119001 ⟨rfl, HQ⟩; refine ⟨_, rfl, ?_⟩; replace HS : Hp A19 wt15 _ [.box g2 [.slice none 0 0, .int .i64 0, .int .i64 0, .int .i64 0, .int .i64 0, .bool false] 67, .box g20 [.bool t119001.2.f0] 133, .box g8 [.slice none 0 0, .int .i64 0, .int .i64 0, .int .i64 0, .int .i64 0, .bool false] 67, .own (Zd.slice 9 Zd.string) t104001.1 [.slice B104002 t104001.1.length d104002]] := HB _ _ HQ (Nat.le_of_ble_eq_true rfl); clear HQ HA HB HL HD; (try clear F)
         replace HS : Hp A19 wt15 _ [.box g2 [.slice none 0 0, .int .i64 0, .int .i64 0, .int .i64 0, .int .i64 0, .bool false] 67, .box g20 [.bool t119001.2.f0] 133, .box g8 [.slice none 0 0, .int .i64 0, .int .i64 0, .int .i64 0, .int .i64 0, .bool false] 67, .own (Zd.slice 9 Zd.string) t104001.1 [.slice B104002 t104001.1.length d104002]] := HS
         have F := HS.boxes; simp only [boxFacts, and_true] at F
         refine hK.out _ _ ⟨[], HS.arr [some 0, none] (by decide)⟩ (fun HH => ?_)
         clear hK K
         refine norm_ (a' := ?_) ?_ ?_
         rotate_left
         · show Act.put _ (some 43) _ = _; simp only [Act.put, List.setIfInBounds_toArray, List.set_cons_zero, List.set_cons_succ, i64_w, i32_w, c12, c18]; rfl
         refine dr_one 24 HT rfl (by kernel_rfl) (by decide) (fun K hK => ?_)
         refine HS.lend [1] (by decide) [.box g20 [.bool t119001.2.f0] 133] rfl (fun A' HL HD HA HB => ?_); refine goes_ Try.func93 (by kernel_rfl) rfl #[.pointer (some ⟨g20, 0, none⟩), .agg #[.int .i64 ((rd_T107 t3.1.f2 4).f0), .string ((rd_T107 t3.1.f2 4).f1), .slice B122999_2 (rd_T107 t3.1.f2 4).f2.length d122999_2]] (by rfl) rfl rfl (by simp only [List.map_toArray, List.map_cons, List.map_nil]; rfl) ?_; refine (impl_opener_num_0.calls ht124001.out y122999_2 m122999_2 (hV.lend HS HL) HA).mono ?_; rintro _ wt124001 ⟨rfl, HQ⟩; refine ⟨_, rfl, ?_⟩; replace HS : Hp A19 wt15 _ [.box g2 [.slice none 0 0, .int .i64 0, .int .i64 0, .int .i64 0, .int .i64 0, .bool false] 67, .box g20 [.bool t124001.2.f0] 133, .box g8 [.slice none 0 0, .int .i64 0, .int .i64 0, .int .i64 0, .int .i64 0, .bool false] 67, .own (Zd.slice 9 Zd.string) t104001.1 [.slice B104002 t104001.1.length d104002]] := HB _ _ HQ (Nat.le_of_ble_eq_true rfl); clear HQ HA HB HL HD; (try clear F)
         replace HS : Hp A19 wt15 _ [.box g2 [.slice none 0 0, .int .i64 0, .int .i64 0, .int .i64 0, .int .i64 0, .bool false] 67, .box g20 [.bool t124001.2.f0] 133, .box g8 [.slice none 0 0, .int .i64 0, .int .i64 0, .int .i64 0, .int .i64 0, .bool false] 67, .own (Zd.slice 9 Zd.string) t104001.1 [.slice B104002 t104001.1.length d104002]] := HS
         have F := HS.boxes; simp only [boxFacts, and_true] at F
         refine hK.out _ _ ⟨[], HS.arr [some 0, none] (by decide)⟩ (fun HH => ?_)
         clear hK K
         refine norm_ (a' := ?_) ?_ ?_
         rotate_left
         · show Act.put _ (some 48) _ = _; simp only [Act.put, List.setIfInBounds_toArray, List.set_cons_zero, List.set_cons_succ, i64_w, i32_w, c12, c18]; rfl
         refine dr_one 29 HT rfl (by kernel_rfl) (by decide) (fun K hK => ?_)
         refine HS.lend [1] (by decide) [.box g20 [.bool t124001.2.f0] 133] rfl (fun A' HL HD HA HB => ?_); refine goes_ Try.func94 (by kernel_rfl) rfl #[.pointer (some ⟨g20, 0, none⟩), .agg #[.int .i64 ((rd_T107 t3.1.f2 5).f0), .string ((rd_T107 t3.1.f2 5).f1), .slice B127999_2 (rd_T107 t3.1.f2 5).f2.length d127999_2]] (by rfl) rfl rfl (by simp only [List.map_toArray, List.map_cons, List.map_nil]; rfl) ?_; refine (impl_opener_flag_0.calls ht129001.out y127999_2 m127999_2 (hV.lend HS HL) HA).mono ?_; rintro _ wt129001 ⟨rfl, HQ⟩; refine ⟨_, rfl, ?_⟩; replace HS : Hp A19 wt15 _ [.box g2 [.slice none 0 0, .int .i64 0, .int .i64 0, .int .i64 0, .int .i64 0, .bool false] 67, .box g20 [.bool t129001.2.f0] 133, .box g8 [.slice none 0 0, .int .i64 0, .int .i64 0, .int .i64 0, .int .i64 0, .bool false] 67, .own (Zd.slice 9 Zd.string) t104001.1 [.slice B104002 t104001.1.length d104002]] := HB _ _ HQ (Nat.le_of_ble_eq_true rfl); clear HQ HA HB HL HD; (try clear F)
         replace HS : Hp A19 wt15 _ [.box g2 [.slice none 0 0, .int .i64 0, .int .i64 0, .int .i64 0, .int .i64 0, .bool false] 67, .box g20 [.bool t129001.2.f0] 133, .box g8 [.slice none 0 0, .int .i64 0, .int .i64 0, .int .i64 0, .int .i64 0, .bool false] 67, .own (Zd.slice 9 Zd.string) t104001.1 [.slice B104002 t104001.1.length d104002]] := HS
         have F := HS.boxes; simp only [boxFacts, and_true] at F
         refine hK.out _ _ ⟨[], HS.arr [some 0, none] (by decide)⟩ (fun HH => ?_)
         clear hK K
         refine norm_ (a' := ?_) ?_ ?_
         rotate_left
         · show Act.put _ (some 53) _ = _; simp only [Act.put, List.setIfInBounds_toArray, List.set_cons_zero, List.set_cons_succ, i64_w, i32_w, c12, c18]; rfl
         refine drq_of [(30, some 54)] ?_
         repeat (first | (refine drq_pure HT (v := ?_) (a' := ?_) rfl rfl (by kernel_rfl) (fun _ _ _ h => h) (.inl ⟨by rfl, ?_⟩) ?_ ?_; rotate_left; (intro w'; go_simp; with_reducible rfl); rotate_left; (simp only [Act.put, List.setIfInBounds_toArray, List.set_cons_zero, List.set_cons_succ, i64_w, i32_w]; rfl)))
         refine drq_end ?_
         refine dr_last 32 HT rfl (by kernel_rfl) (by decide) (fun K hK => ?_)
         refine if_wp (by rfl) ?_; refine wp_store 2 0 HS (seg := [.slice B104002 t104001.1.length d104002, .int .i64 t109001.1, .int .i64 t114001.1, .int .i64 t119001.1, .int .i64 t124001.1, .bool t129001.1]) rfl rfl rfl rfl rfl rfl (by kernel_rfl) (by simp [wrt]) (by simp [Value.oneCell']) ?_; clear HS; (try clear F); intro w132001 HS
         replace HS : Hp A19 wt15 _ [.box g2 [.slice none 0 0, .int .i64 0, .int .i64 0, .int .i64 0, .int .i64 0, .bool false] 67, .box g20 [.bool t129001.2.f0] 133, .box g8 [.slice B104002 t104001.1.length d104002, .int .i64 t109001.1, .int .i64 t114001.1, .int .i64 t119001.1, .int .i64 t124001.1, .bool t129001.1] 67, .own (Zd.slice 9 Zd.string) t104001.1 [.slice B104002 t104001.1.length d104002]] := HS
         have F := HS.boxes; simp only [boxFacts, and_true] at F
         refine hK.out _ _ ?_
         clear hK K
         refine norm_ ?_ (hJ (.slice B104002 t104001.1.length d104002, g8, .pointer (some ad102999), .agg #[.int .i64 ((rd_T107 t3.1.f2 0).f0), .string ((rd_T107 t3.1.f2 0).f1), .slice B102999_2 (rd_T107 t3.1.f2 0).f2.length d102999_2], .pointer (some (ad102999.add 3)), .agg #[.int .i64 ((rd_T107 t3.1.f2 1).f0), .string ((rd_T107 t3.1.f2 1).f1), .slice B107999_2 (rd_T107 t3.1.f2 1).f2.length d107999_2], .pointer (some (ad102999.add 6)), .agg #[.int .i64 ((rd_T107 t3.1.f2 2).f0), .string ((rd_T107 t3.1.f2 2).f1), .slice B112999_2 (rd_T107 t3.1.f2 2).f2.length d112999_2], .pointer (some (ad102999.add 9)), .agg #[.int .i64 ((rd_T107 t3.1.f2 3).f0), .string ((rd_T107 t3.1.f2 3).f1), .slice B117999_2 (rd_T107 t3.1.f2 3).f2.length d117999_2], .pointer (some (ad102999.add 12)), .agg #[.int .i64 ((rd_T107 t3.1.f2 4).f0), .string ((rd_T107 t3.1.f2 4).f1), .slice B122999_2 (rd_T107 t3.1.f2 4).f2.length d122999_2], .pointer (some (ad102999.add 15)), .agg #[.int .i64 ((rd_T107 t3.1.f2 5).f0), .string ((rd_T107 t3.1.f2 5).f1), .slice B127999_2 (rd_T107 t3.1.f2 5).f2.length d127999_2]) _ (HS.arr [some 0, some 1, some 3, some 2] (by decide)))
         simp only [putAll, Act.put, List.setIfInBounds_toArray, List.set_cons_zero, List.set_cons_succ, i64_w, i32_w, c12, c18]
         (try rfl)
     rintro ⟨v104002, g8, pe26, pe27, pe31, pe32, pe36, pe37, pe41, pe42, pe46, pe47, pe51, pe52⟩ w199999 HS
     obtain ⟨B104002, d104002, rfl, m104002⟩ := HS.form 2 rfl
     have F := HS.boxes; simp only [boxFacts, and_true] at F
     refine norm_ (a' := ?_) ?_ ?_
     rotate_left
     · simp only [putAll, Act.put, List.setIfInBounds_toArray, List.set_cons_zero, List.set_cons_succ, i64_w, i32_w, c12, c18]; rfl
     refine done_ (done_of HT.out (by kernel_rfl)) ?_
     replace H := zbind H; obtain ⟨t24, ht24, H⟩ := H
     by_cases c26 : t129001.2.f0 = true
     · replace H := zpos c26 H
       obtain ⟨rfl, rfl⟩ := zsome2 H
       go_wp2_with (first | ((with_reducible refine gate_dst (N := 57) rfl ?_); refine ev_call rfl Try.func95 (by kernel_rfl) rfl #[.agg #[.slice B104002 t104001.1.length d104002, .int .i64 t109001.1, .int .i64 t114001.1, .int .i64 t119001.1, .int .i64 t124001.1, .bool t129001.1]] rfl (by simp only [List.map_toArray, List.map_cons, List.map_nil]; rfl) ?_; refine (impl_AskText.calls ht24.out (HS.rd 2 rfl) m104002).mono ?_; rintro _ wt24 ⟨rfl, HQ⟩; refine ⟨_, rfl, ?_⟩; replace HS := HS.call HQ; clear HQ; (try clear F); replace HS : Hp A19 wt15 _ [.box g2 [.slice none 0 0, .int .i64 0, .int .i64 0, .int .i64 0, .int .i64 0, .bool false] 67, .box g20 [.bool t129001.2.f0] 133, .own (Zd.slice 9 Zd.string) t104001.1 [.slice B104002 t104001.1.length d104002], .box g8 [.slice B104002 t104001.1.length d104002, .int .i64 t109001.1, .int .i64 t114001.1, .int .i64 t119001.1, .int .i64 t124001.1, .bool t129001.1] 67] := HS; have F := HS.boxes; simp only [boxFacts, and_true] at F; (try simp only [c26])) | ((with_reducible refine gate_store (p := 2) rfl ?_); refine ev_store rfl 0 0 HS (seg := [.slice none 0 0, .int .i64 0, .int .i64 0, .int .i64 0, .int .i64 0, .bool false]) rfl rfl rfl rfl rfl rfl (by kernel_rfl) (by simp [wrt]) (by simp [Value.oneCell']) ?_; clear HS; (try clear F); intro w27 HS; replace HS : Hp A19 wt15 _ [.box g2 [.slice none 0 0, .int .i64 0, .int .i64 0, .int .i64 0, .int .i64 0, .bool false] 67, .box g20 [.bool t129001.2.f0] 133, .own (Zd.slice 9 Zd.string) t104001.1 [.slice B104002 t104001.1.length d104002], .box g8 [.slice B104002 t104001.1.length d104002, .int .i64 t109001.1, .int .i64 t114001.1, .int .i64 t119001.1, .int .i64 t124001.1, .bool t129001.1] 67] := HS; have F := HS.boxes; simp only [boxFacts, and_true] at F))
       have HS := HB19 _ _ HS (Nat.le_of_ble_eq_true rfl)
       have HS := HB6 _ _ HS (Nat.le_of_ble_eq_true rfl)
       replace HS := HS.nil 9 Zd.string
       exact bodyPost_ret (results_list (rs := [.cell 2 67, .tmp 3]) rfl (by simp) (.cell _ _ _ _ _ rfl (HS.boxAt (i := 0) rfl) Try.underlying67 rfl (by kernel_rfl) (.tmp .nil))) rfl ⟨_, rfl, HS.pick [7] (by decide) (by rfl)⟩
     · replace H := zneg c26 H
       replace c26 := eq_false_of_ne_true c26
       by_cases c29 : t24.2 = true
       · replace H := zpos c29 H
         go_upto_if 72 with (first | ((with_reducible refine gate_dst (N := 57) rfl ?_); refine ev_call rfl Try.func95 (by kernel_rfl) rfl #[.agg #[.slice B104002 t104001.1.length d104002, .int .i64 t109001.1, .int .i64 t114001.1, .int .i64 t119001.1, .int .i64 t124001.1, .bool t129001.1]] rfl (by simp only [List.map_toArray, List.map_cons, List.map_nil]; rfl) ?_; refine (impl_AskText.calls ht24.out (HS.rd 2 rfl) m104002).mono ?_; rintro _ wt24 ⟨rfl, HQ⟩; refine ⟨_, rfl, ?_⟩; replace HS := HS.call HQ; clear HQ; (try clear F); replace HS : Hp A19 wt15 _ [.box g2 [.slice none 0 0, .int .i64 0, .int .i64 0, .int .i64 0, .int .i64 0, .bool false] 67, .box g20 [.bool t129001.2.f0] 133, .own (Zd.slice 9 Zd.string) t104001.1 [.slice B104002 t104001.1.length d104002], .box g8 [.slice B104002 t104001.1.length d104002, .int .i64 t109001.1, .int .i64 t114001.1, .int .i64 t119001.1, .int .i64 t124001.1, .bool t129001.1] 67] := HS; have F := HS.boxes; simp only [boxFacts, and_true] at F; (try simp only [c26]); (try simp only [c29])))
         by_cases c30 : t24.1.toList = a0.toList
         · replace H := zpos c30 H
           have c30a := beq_iff_eq.mpr c30
           have c30b := bne_eq_false_iff_eq.mpr c30
           clear c30
           (try simp only [c30a, c30b, decide_true, decide_false, Bool.not_true, Bool.not_false])
           obtain ⟨rfl, rfl⟩ := zsome2 H
           go_wp2_with (first | ((with_reducible refine gate_store (p := 2) rfl ?_); refine ev_store rfl 0 0 HS (seg := [.slice B104002 t104001.1.length d104002, .int .i64 t109001.1, .int .i64 t114001.1, .int .i64 t119001.1, .int .i64 t124001.1, .bool t129001.1]) rfl rfl rfl rfl rfl rfl (by kernel_rfl) (by simp [wrt]) (by simp [Value.oneCell']) ?_; clear HS; (try clear F); intro w31 HS; replace HS : Hp A19 wt15 _ [.box g2 [.slice B104002 t104001.1.length d104002, .int .i64 t109001.1, .int .i64 t114001.1, .int .i64 t119001.1, .int .i64 t124001.1, .bool t129001.1] 67, .box g20 [.bool t129001.2.f0] 133, .own (Zd.slice 9 Zd.string) t104001.1 [.slice B104002 t104001.1.length d104002], .box g8 [.slice B104002 t104001.1.length d104002, .int .i64 t109001.1, .int .i64 t114001.1, .int .i64 t119001.1, .int .i64 t124001.1, .bool t129001.1] 67] := HS; have F := HS.boxes; simp only [boxFacts, and_true] at F))
           have HS := HB19 _ _ HS (Nat.le_of_ble_eq_true rfl)
           have HS := HB6 _ _ HS (Nat.le_of_ble_eq_true rfl)
           exact bodyPost_ret (results_list (rs := [.cell 2 67, .tmp 3]) rfl (by simp) (.cell _ _ _ _ _ rfl (HS.boxAt (i := 0) rfl) Try.underlying67 rfl (by kernel_rfl) (.tmp .nil))) rfl ⟨_, rfl, HS.pick [5] (by decide) (by rfl)⟩
         · replace H := zneg c30 H
           have c30a := beq_eq_false_iff_ne.mpr c30
           have c30b := bne_iff_ne.mpr c30
           clear c30
           (try simp only [c30a, c30b, decide_true, decide_false, Bool.not_true, Bool.not_false])
           obtain ⟨rfl, rfl⟩ := zsome2 H
           go_wp2_with (first | ((with_reducible refine gate_store (p := 2) rfl ?_); refine ev_store rfl 0 0 HS (seg := [.slice none 0 0, .int .i64 0, .int .i64 0, .int .i64 0, .int .i64 0, .bool false]) rfl rfl rfl rfl rfl rfl (by kernel_rfl) (by simp [wrt]) (by simp [Value.oneCell']) ?_; clear HS; (try clear F); intro w33 HS; replace HS : Hp A19 wt15 _ [.box g2 [.slice none 0 0, .int .i64 0, .int .i64 0, .int .i64 0, .int .i64 0, .bool false] 67, .box g20 [.bool t129001.2.f0] 133, .own (Zd.slice 9 Zd.string) t104001.1 [.slice B104002 t104001.1.length d104002], .box g8 [.slice B104002 t104001.1.length d104002, .int .i64 t109001.1, .int .i64 t114001.1, .int .i64 t119001.1, .int .i64 t124001.1, .bool t129001.1] 67] := HS; have F := HS.boxes; simp only [boxFacts, and_true] at F))
           have HS := HB19 _ _ HS (Nat.le_of_ble_eq_true rfl)
           have HS := HB6 _ _ HS (Nat.le_of_ble_eq_true rfl)
           replace HS := HS.nil 9 Zd.string
           exact bodyPost_ret (results_list (rs := [.cell 2 67, .tmp 3]) rfl (by simp) (.cell _ _ _ _ _ rfl (HS.boxAt (i := 0) rfl) Try.underlying67 rfl (by kernel_rfl) (.tmp .nil))) rfl ⟨_, rfl, HS.pick [7] (by decide) (by rfl)⟩
       · replace H := zneg c29 H
         replace c29 := eq_false_of_ne_true c29
         obtain ⟨rfl, rfl⟩ := zsome2 H
         go_wp2_with (first | ((with_reducible refine gate_dst (N := 57) rfl ?_); refine ev_call rfl Try.func95 (by kernel_rfl) rfl #[.agg #[.slice B104002 t104001.1.length d104002, .int .i64 t109001.1, .int .i64 t114001.1, .int .i64 t119001.1, .int .i64 t124001.1, .bool t129001.1]] rfl (by simp only [List.map_toArray, List.map_cons, List.map_nil]; rfl) ?_; refine (impl_AskText.calls ht24.out (HS.rd 2 rfl) m104002).mono ?_; rintro _ wt24 ⟨rfl, HQ⟩; refine ⟨_, rfl, ?_⟩; replace HS := HS.call HQ; clear HQ; (try clear F); replace HS : Hp A19 wt15 _ [.box g2 [.slice none 0 0, .int .i64 0, .int .i64 0, .int .i64 0, .int .i64 0, .bool false] 67, .box g20 [.bool t129001.2.f0] 133, .own (Zd.slice 9 Zd.string) t104001.1 [.slice B104002 t104001.1.length d104002], .box g8 [.slice B104002 t104001.1.length d104002, .int .i64 t109001.1, .int .i64 t114001.1, .int .i64 t119001.1, .int .i64 t124001.1, .bool t129001.1] 67] := HS; have F := HS.boxes; simp only [boxFacts, and_true] at F; (try simp only [c26]); (try simp only [c29])) | ((with_reducible refine gate_store (p := 2) rfl ?_); refine ev_store rfl 0 0 HS (seg := [.slice none 0 0, .int .i64 0, .int .i64 0, .int .i64 0, .int .i64 0, .bool false]) rfl rfl rfl rfl rfl rfl (by kernel_rfl) (by simp [wrt]) (by simp [Value.oneCell']) ?_; clear HS; (try clear F); intro w35 HS; replace HS : Hp A19 wt15 _ [.box g2 [.slice none 0 0, .int .i64 0, .int .i64 0, .int .i64 0, .int .i64 0, .bool false] 67, .box g20 [.bool t129001.2.f0] 133, .own (Zd.slice 9 Zd.string) t104001.1 [.slice B104002 t104001.1.length d104002], .box g8 [.slice B104002 t104001.1.length d104002, .int .i64 t109001.1, .int .i64 t114001.1, .int .i64 t119001.1, .int .i64 t124001.1, .bool t129001.1] 67] := HS; have F := HS.boxes; simp only [boxFacts, and_true] at F))
         have HS := HB19 _ _ HS (Nat.le_of_ble_eq_true rfl)
         have HS := HB6 _ _ HS (Nat.le_of_ble_eq_true rfl)
         replace HS := HS.nil 9 Zd.string
         exact bodyPost_ret (results_list (rs := [.cell 2 67, .tmp 3]) rfl (by simp) (.cell _ _ _ _ _ rfl (HS.boxAt (i := 0) rfl) Try.underlying67 rfl (by kernel_rfl) (.tmp .nil))) rfl ⟨_, rfl, HS.pick [7] (by decide) (by rfl)⟩
   · replace H := zneg c18 H
     replace c18 := eq_false_of_ne_true c18
     go_wp2_with (first | ((with_reducible refine gate_dst (N := 20) rfl ?_); refine ev_box rfl HS (by first | (go_simp; done) | (go_simp; rfl)) rfl ?_; clear HS; (try clear F); intro g20 w20 HS; replace HS : Hp A6 wt3 _ [.box g2 [.slice none 0 0, .int .i64 0, .int .i64 0, .int .i64 0, .int .i64 0, .bool false] 67, .box g4 [.int .i64 t3.1.f0, .string t3.1.f1, .slice B4 t3.1.f2.length d4] 107, .box g20 [.bool false] 133] := HS; have F := HS.boxes; simp only [boxFacts, and_true] at F) | ((with_reducible refine gate_dst (N := 23) rfl ?_); refine HS.lend [2] (by decide) [.box g20 [.bool false] 133] rfl (fun A' HL HD HA HB => ?_); refine ev_call rfl Try.func91 (by kernel_rfl) rfl #[.pointer (some ⟨g20, 0, none⟩), .agg #[.int .i64 t3.1.f0, .string t3.1.f1, .slice B4 t3.1.f2.length d4], .int .i64 6] rfl (by simp only [List.map_toArray, List.map_cons, List.map_nil]; rfl) ?_; refine (impl_opener_list_0.calls ht15.out gb6_0 m4 (hV.lend HS HL) HA).mono ?_; rintro _ wt15 ⟨v16, rfl, HQ⟩; refine ⟨_, rfl, ?_⟩; replace HS : Hp A6 wt3 _ [.box g2 [.slice none 0 0, .int .i64 0, .int .i64 0, .int .i64 0, .int .i64 0, .bool false] 67, .box g4 [.int .i64 t3.1.f0, .string t3.1.f1, .slice B4 t3.1.f2.length d4] 107, .box g20 [.bool t15.2.f0] 133, .own (Zd.slice 107 q107) (List.replicate t15.1.2 z107) [v16]] := HB _ _ HQ (Nat.le_of_ble_eq_true rfl); clear HQ HA HB HL HD; (try clear F); obtain ⟨B16, d16, rfl, m16⟩ := HS.formn t15.1.2 3 rfl (by first | rfl | simp); (try simp only [cond_true, cond_false]); (try simp only [c18, cond_true, cond_false]); replace HS : Hp A6 wt3 _ [.box g2 [.slice none 0 0, .int .i64 0, .int .i64 0, .int .i64 0, .int .i64 0, .bool false] 67, .box g4 [.int .i64 t3.1.f0, .string t3.1.f1, .slice B4 t3.1.f2.length d4] 107, .box g20 [.bool t15.2.f0] 133, .own (Zd.slice 107 q107) (List.replicate t15.1.2 z107) [.slice B16 t15.1.2 d16]] := HS; have F := HS.boxes; simp only [boxFacts, and_true] at F; refine HS.lend [0, 2] (by decide) [.box g2 [.slice none 0 0, .int .i64 0, .int .i64 0, .int .i64 0, .int .i64 0, .bool false] 67, .box g20 [.bool t15.2.f0] 133] rfl (fun A37 HL HD HA HB37 => ?_); have gb37_0 := hV.hideC km107 HS HL gb6_0; have zg4_b37_0 := hide_box HD 1 rfl (by decide) (j := 0) rfl; have zg4_b37_1 := hide_box HD 1 rfl (by decide) (j := 1) rfl; have zg4_b37_2 := hide_box HD 1 rfl (by decide) (j := 2) rfl; have gb37_1 := hide_rd HD 3 rfl (by decide); replace HS := HA; replace hV := hide_view A37 wt15; clear HA HD HL; (try clear F); replace HS : Hp A37 wt15 _ [.box g2 [.slice none 0 0, .int .i64 0, .int .i64 0, .int .i64 0, .int .i64 0, .bool false] 67, .box g20 [.bool t15.2.f0] 133] := HS; have F := HS.boxes; simp only [boxFacts, and_true] at F))
     by_cases c202001 : 0 < (t15.1.2 : Int)
     case neg => exact zno c202001 H
     replace H := zpos c202001 H
     replace c202001 := eq_true c202001
     have c202001n : (0 < t15.1.2) = True := eq_true (by have := of_eq_true c202001; omega)
     obtain ⟨ad202999, B202999_2, d202999_2, rfl, e202999_0, e202999_1, e202999_2, m202999_2, y202999_2⟩ := at_T107 gb37_1 0 (of_eq_true (eq_true (by decide))) (of_eq_true c202001); simp only [rdrep_T107] at e202999_0 e202999_1 e202999_2; simp only [z107, List.length_nil] at e202999_0 e202999_1 e202999_2; (try (have e202999_0' := e202999_0; simp only [Int.toNat_zero, Int.reduceToNat, Int.toNat_natCast, Nat.zero_mul, Nat.one_mul, Nat.zero_add, Nat.add_zero, Addr.add_zero', Addr.add_succ', Nat.reduceMul, Nat.reduceAdd] at e202999_0')); (try (have e202999_1' := e202999_1; simp only [Int.toNat_zero, Int.reduceToNat, Int.toNat_natCast, Nat.zero_mul, Nat.one_mul, Nat.zero_add, Nat.add_zero, Addr.add_zero', Addr.add_succ', Nat.reduceMul, Nat.reduceAdd] at e202999_1')); (try (have e202999_2' := e202999_2; simp only [Int.toNat_zero, Int.reduceToNat, Int.toNat_natCast, Nat.zero_mul, Nat.one_mul, Nat.zero_add, Nat.add_zero, Addr.add_zero', Addr.add_succ', Nat.reduceMul, Nat.reduceAdd] at e202999_2'))
     replace H := zbind H; obtain ⟨t204001, ht204001, H⟩ := H
     by_cases c207001 : 1 < (t15.1.2 : Int)
     case neg => exact zno c207001 H
     replace H := zpos c207001 H
     replace c207001 := eq_true c207001
     have c207001n : (1 < t15.1.2) = True := eq_true (by have := of_eq_true c207001; omega)
     obtain ⟨ad207999, B207999_2, d207999_2, hq207999, e207999_0, e207999_1, e207999_2, m207999_2, y207999_2⟩ := at_T107 gb37_1 1 (of_eq_true (eq_true (by decide))) (of_eq_true c207001); obtain rfl := Option.some.inj hq207999; simp only [rdrep_T107] at e207999_0 e207999_1 e207999_2; simp only [z107, List.length_nil] at e207999_0 e207999_1 e207999_2; (try (have e207999_0' := e207999_0; simp only [Int.toNat_zero, Int.reduceToNat, Int.toNat_natCast, Nat.zero_mul, Nat.one_mul, Nat.zero_add, Nat.add_zero, Addr.add_zero', Addr.add_succ', Nat.reduceMul, Nat.reduceAdd] at e207999_0')); (try (have e207999_1' := e207999_1; simp only [Int.toNat_zero, Int.reduceToNat, Int.toNat_natCast, Nat.zero_mul, Nat.one_mul, Nat.zero_add, Nat.add_zero, Addr.add_zero', Addr.add_succ', Nat.reduceMul, Nat.reduceAdd] at e207999_1')); (try (have e207999_2' := e207999_2; simp only [Int.toNat_zero, Int.reduceToNat, Int.toNat_natCast, Nat.zero_mul, Nat.one_mul, Nat.zero_add, Nat.add_zero, Addr.add_zero', Addr.add_succ', Nat.reduceMul, Nat.reduceAdd] at e207999_2'))
     replace H := zbind H; obtain ⟨t209001, ht209001, H⟩ := H
     by_cases c212001 : 2 < (t15.1.2 : Int)
     case neg => exact zno c212001 H
     replace H := zpos c212001 H
     replace c212001 := eq_true c212001
     have c212001n : (2 < t15.1.2) = True := eq_true (by have := of_eq_true c212001; omega)
     obtain ⟨ad212999, B212999_2, d212999_2, hq212999, e212999_0, e212999_1, e212999_2, m212999_2, y212999_2⟩ := at_T107 gb37_1 2 (of_eq_true (eq_true (by decide))) (of_eq_true c212001); obtain rfl := Option.some.inj hq212999; simp only [rdrep_T107] at e212999_0 e212999_1 e212999_2; simp only [z107, List.length_nil] at e212999_0 e212999_1 e212999_2; (try (have e212999_0' := e212999_0; simp only [Int.toNat_zero, Int.reduceToNat, Int.toNat_natCast, Nat.zero_mul, Nat.one_mul, Nat.zero_add, Nat.add_zero, Addr.add_zero', Addr.add_succ', Nat.reduceMul, Nat.reduceAdd] at e212999_0')); (try (have e212999_1' := e212999_1; simp only [Int.toNat_zero, Int.reduceToNat, Int.toNat_natCast, Nat.zero_mul, Nat.one_mul, Nat.zero_add, Nat.add_zero, Addr.add_zero', Addr.add_succ', Nat.reduceMul, Nat.reduceAdd] at e212999_1')); (try (have e212999_2' := e212999_2; simp only [Int.toNat_zero, Int.reduceToNat, Int.toNat_natCast, Nat.zero_mul, Nat.one_mul, Nat.zero_add, Nat.add_zero, Addr.add_zero', Addr.add_succ', Nat.reduceMul, Nat.reduceAdd] at e212999_2'))
     replace H := zbind H; obtain ⟨t214001, ht214001, H⟩ := H
     by_cases c217001 : 3 < (t15.1.2 : Int)
     case neg => exact zno c217001 H
     replace H := zpos c217001 H
     replace c217001 := eq_true c217001
     have c217001n : (3 < t15.1.2) = True := eq_true (by have := of_eq_true c217001; omega)
     obtain ⟨ad217999, B217999_2, d217999_2, hq217999, e217999_0, e217999_1, e217999_2, m217999_2, y217999_2⟩ := at_T107 gb37_1 3 (of_eq_true (eq_true (by decide))) (of_eq_true c217001); obtain rfl := Option.some.inj hq217999; simp only [rdrep_T107] at e217999_0 e217999_1 e217999_2; simp only [z107, List.length_nil] at e217999_0 e217999_1 e217999_2; (try (have e217999_0' := e217999_0; simp only [Int.toNat_zero, Int.reduceToNat, Int.toNat_natCast, Nat.zero_mul, Nat.one_mul, Nat.zero_add, Nat.add_zero, Addr.add_zero', Addr.add_succ', Nat.reduceMul, Nat.reduceAdd] at e217999_0')); (try (have e217999_1' := e217999_1; simp only [Int.toNat_zero, Int.reduceToNat, Int.toNat_natCast, Nat.zero_mul, Nat.one_mul, Nat.zero_add, Nat.add_zero, Addr.add_zero', Addr.add_succ', Nat.reduceMul, Nat.reduceAdd] at e217999_1')); (try (have e217999_2' := e217999_2; simp only [Int.toNat_zero, Int.reduceToNat, Int.toNat_natCast, Nat.zero_mul, Nat.one_mul, Nat.zero_add, Nat.add_zero, Addr.add_zero', Addr.add_succ', Nat.reduceMul, Nat.reduceAdd] at e217999_2'))
     replace H := zbind H; obtain ⟨t219001, ht219001, H⟩ := H
     by_cases c222001 : 4 < (t15.1.2 : Int)
     case neg => exact zno c222001 H
     replace H := zpos c222001 H
     replace c222001 := eq_true c222001
     have c222001n : (4 < t15.1.2) = True := eq_true (by have := of_eq_true c222001; omega)
     obtain ⟨ad222999, B222999_2, d222999_2, hq222999, e222999_0, e222999_1, e222999_2, m222999_2, y222999_2⟩ := at_T107 gb37_1 4 (of_eq_true (eq_true (by decide))) (of_eq_true c222001); obtain rfl := Option.some.inj hq222999; simp only [rdrep_T107] at e222999_0 e222999_1 e222999_2; simp only [z107, List.length_nil] at e222999_0 e222999_1 e222999_2; (try (have e222999_0' := e222999_0; simp only [Int.toNat_zero, Int.reduceToNat, Int.toNat_natCast, Nat.zero_mul, Nat.one_mul, Nat.zero_add, Nat.add_zero, Addr.add_zero', Addr.add_succ', Nat.reduceMul, Nat.reduceAdd] at e222999_0')); (try (have e222999_1' := e222999_1; simp only [Int.toNat_zero, Int.reduceToNat, Int.toNat_natCast, Nat.zero_mul, Nat.one_mul, Nat.zero_add, Nat.add_zero, Addr.add_zero', Addr.add_succ', Nat.reduceMul, Nat.reduceAdd] at e222999_1')); (try (have e222999_2' := e222999_2; simp only [Int.toNat_zero, Int.reduceToNat, Int.toNat_natCast, Nat.zero_mul, Nat.one_mul, Nat.zero_add, Nat.add_zero, Addr.add_zero', Addr.add_succ', Nat.reduceMul, Nat.reduceAdd] at e222999_2'))
     replace H := zbind H; obtain ⟨t224001, ht224001, H⟩ := H
     by_cases c227001 : 5 < (t15.1.2 : Int)
     case neg => exact zno c227001 H
     replace H := zpos c227001 H
     replace c227001 := eq_true c227001
     have c227001n : (5 < t15.1.2) = True := eq_true (by have := of_eq_true c227001; omega)
     obtain ⟨ad227999, B227999_2, d227999_2, hq227999, e227999_0, e227999_1, e227999_2, m227999_2, y227999_2⟩ := at_T107 gb37_1 5 (of_eq_true (eq_true (by decide))) (of_eq_true c227001); obtain rfl := Option.some.inj hq227999; simp only [rdrep_T107] at e227999_0 e227999_1 e227999_2; simp only [z107, List.length_nil] at e227999_0 e227999_1 e227999_2; (try (have e227999_0' := e227999_0; simp only [Int.toNat_zero, Int.reduceToNat, Int.toNat_natCast, Nat.zero_mul, Nat.one_mul, Nat.zero_add, Nat.add_zero, Addr.add_zero', Addr.add_succ', Nat.reduceMul, Nat.reduceAdd] at e227999_0')); (try (have e227999_1' := e227999_1; simp only [Int.toNat_zero, Int.reduceToNat, Int.toNat_natCast, Nat.zero_mul, Nat.one_mul, Nat.zero_add, Nat.add_zero, Addr.add_zero', Addr.add_succ', Nat.reduceMul, Nat.reduceAdd] at e227999_1')); (try (have e227999_2' := e227999_2; simp only [Int.toNat_zero, Int.reduceToNat, Int.toNat_natCast, Nat.zero_mul, Nat.one_mul, Nat.zero_add, Nat.add_zero, Addr.add_zero', Addr.add_succ', Nat.reduceMul, Nat.reduceAdd] at e227999_2'))
     replace H := zbind H; obtain ⟨t229001, ht229001, H⟩ := H
     refine dr_start2 [.box g2 [.slice none 0 0, .int .i64 0, .int .i64 0, .int .i64 0, .int .i64 0, .bool false] 67, .emp] [32] HS (HS.arr [some 0, none] (by decide)) #[false, false, false, false, false, false, false, false, false, false, false, false, false, false, false, false, false, false, false, false, false, false, false, false, false, false, false, false, false, false, false, false, false] (by kernel_rfl) rfl rfl impl_ReadAsk.tT6 (fun w40 HT HS HH => ?_)
     (try clear F)
     refine join_ 0 #[true, true, true, true, true, true, true, true, true, true, true, true, true, true, true, true, true, true, true, true, true, true, true, true, true, true, true, true, true, true, true, true, true] (fun ((v204002, g8, pe26, pe27, pe31, pe32, pe36, pe37, pe41, pe42, pe46, pe47, pe51, pe52) : Value × Nat × Value × Value × Value × Value × Value × Value × Value × Value × Value × Value × Value × Value) => ([(24, .pointer (some ⟨g20, 0, none⟩)), (25, .slice (some ad202999) t15.1.2 d16), (26, pe26), (27, pe27), (28, v204002), (29, .pointer (some ⟨g20, 0, none⟩)), (30, .slice (some ad202999) t15.1.2 d16), (31, pe31), (32, pe32), (33, .int .i64 t209001.1), (34, .pointer (some ⟨g20, 0, none⟩)), (35, .slice (some ad202999) t15.1.2 d16), (36, pe36), (37, pe37), (38, .int .i64 t214001.1), (39, .pointer (some ⟨g20, 0, none⟩)), (40, .slice (some ad202999) t15.1.2 d16), (41, pe41), (42, pe42), (43, .int .i64 t219001.1), (44, .pointer (some ⟨g20, 0, none⟩)), (45, .slice (some ad202999) t15.1.2 d16), (46, pe46), (47, pe47), (48, .int .i64 t224001.1), (49, .pointer (some ⟨g20, 0, none⟩)), (50, .slice (some ad202999) t15.1.2 d16), (51, pe51), (52, pe52), (53, .bool t229001.1), (54, .agg #[v204002, .int .i64 t209001.1, .int .i64 t214001.1, .int .i64 t219001.1, .int .i64 t224001.1, .bool t229001.1]), (8, .pointer (some ⟨g8, 0, none⟩))] : List (Tmp × Value))) (fun ((v204002, g8, pe26, pe27, pe31, pe32, pe36, pe37, pe41, pe42, pe46, pe47, pe51, pe52) : Value × Nat × Value × Value × Value × Value × Value × Value × Value × Value × Value × Value × Value × Value) w' => Hp A37 wt15 w' [.box g2 [.slice none 0 0, .int .i64 0, .int .i64 0, .int .i64 0, .int .i64 0, .bool false] 67, .box g20 [.bool t229001.2.f0] 133, .own (Zd.slice 9 Zd.string) t204001.1 [v204002], .box g8 [v204002, .int .i64 t209001.1, .int .i64 t214001.1, .int .i64 t219001.1, .int .i64 t224001.1, .bool t229001.1] 67]) ?_ ?_
     rotate_left
     · intro hJ
       refine drq_of [(0, some 24), (1, some 25), (2, some 26)] ?_
       repeat (first | (refine drq_pure HT (v := ?_) (a' := ?_) rfl rfl (by kernel_rfl) (fun _ _ _ h => h) (.inl ⟨by rfl, ?_⟩) ?_ ?_; rotate_left; (intro w'; go_simp; with_reducible rfl); rotate_left; (simp only [Act.put, List.setIfInBounds_toArray, List.set_cons_zero, List.set_cons_succ, i64_w, i32_w]; rfl)))
       refine drq_end ?_
       refine dr_take 3 (some 27) HT HH (v := ?_) (a' := ?_) rfl rfl (by kernel_rfl) (fun _ _ _ h => h) (.inl ⟨by rfl, ?_⟩) ?_ ?_
       rotate_left
       · rintro w' ⟨rs', HS'⟩; have e202999_0 := (hV.keepc HS' e202999_0); have e202999_1 := (hV.keepc HS' e202999_1); have e202999_2 := (hV.keepc HS' e202999_2); (try simp only [Int.toNat_zero, Int.reduceToNat, Int.toNat_natCast, Nat.zero_mul, Nat.one_mul, Nat.zero_add, Nat.add_zero, Addr.add_zero', Addr.add_succ', Nat.reduceMul, Nat.reduceAdd] at e202999_0 e202999_1 e202999_2); go_simp; with_reducible rfl
       rotate_left
       · simp only [Act.put, List.setIfInBounds_toArray, List.set_cons_zero, List.set_cons_succ, i64_w, i32_w]; rfl
       refine drq_of [(5, some 29), (6, some 30), (7, some 31)] ?_
       repeat (first | (refine drq_pure HT (v := ?_) (a' := ?_) rfl rfl (by kernel_rfl) (fun _ _ _ h => h) (.inl ⟨by rfl, ?_⟩) ?_ ?_; rotate_left; (intro w'; go_simp; with_reducible rfl); rotate_left; (simp only [Act.put, List.setIfInBounds_toArray, List.set_cons_zero, List.set_cons_succ, i64_w, i32_w]; rfl)))
       refine drq_end ?_
       refine dr_take 8 (some 32) HT HH (v := ?_) (a' := ?_) rfl rfl (by kernel_rfl) (fun _ _ _ h => h) (.inl ⟨by rfl, ?_⟩) ?_ ?_
       rotate_left
       · rintro w' ⟨rs', HS'⟩; have e207999_0 := (hV.keepc HS' e207999_0); have e207999_1 := (hV.keepc HS' e207999_1); have e207999_2 := (hV.keepc HS' e207999_2); (try simp only [Int.toNat_zero, Int.reduceToNat, Int.toNat_natCast, Nat.zero_mul, Nat.one_mul, Nat.zero_add, Nat.add_zero, Addr.add_zero', Addr.add_succ', Nat.reduceMul, Nat.reduceAdd] at e207999_0 e207999_1 e207999_2); go_simp; with_reducible rfl
       rotate_left
       · simp only [Act.put, List.setIfInBounds_toArray, List.set_cons_zero, List.set_cons_succ, i64_w, i32_w]; rfl
       refine drq_of [(10, some 34), (11, some 35), (12, some 36)] ?_
       repeat (first | (refine drq_pure HT (v := ?_) (a' := ?_) rfl rfl (by kernel_rfl) (fun _ _ _ h => h) (.inl ⟨by rfl, ?_⟩) ?_ ?_; rotate_left; (intro w'; go_simp; with_reducible rfl); rotate_left; (simp only [Act.put, List.setIfInBounds_toArray, List.set_cons_zero, List.set_cons_succ, i64_w, i32_w]; rfl)))
       refine drq_end ?_
       refine dr_take 13 (some 37) HT HH (v := ?_) (a' := ?_) rfl rfl (by kernel_rfl) (fun _ _ _ h => h) (.inl ⟨by rfl, ?_⟩) ?_ ?_
       rotate_left
       · rintro w' ⟨rs', HS'⟩; have e212999_0 := (hV.keepc HS' e212999_0); have e212999_1 := (hV.keepc HS' e212999_1); have e212999_2 := (hV.keepc HS' e212999_2); (try simp only [Int.toNat_zero, Int.reduceToNat, Int.toNat_natCast, Nat.zero_mul, Nat.one_mul, Nat.zero_add, Nat.add_zero, Addr.add_zero', Addr.add_succ', Nat.reduceMul, Nat.reduceAdd] at e212999_0 e212999_1 e212999_2); go_simp; with_reducible rfl
       rotate_left
       · simp only [Act.put, List.setIfInBounds_toArray, List.set_cons_zero, List.set_cons_succ, i64_w, i32_w]; rfl
       refine drq_of [(15, some 39), (16, some 40), (17, some 41)] ?_
       repeat (first | (refine drq_pure HT (v := ?_) (a' := ?_) rfl rfl (by kernel_rfl) (fun _ _ _ h => h) (.inl ⟨by rfl, ?_⟩) ?_ ?_; rotate_left; (intro w'; go_simp; with_reducible rfl); rotate_left; (simp only [Act.put, List.setIfInBounds_toArray, List.set_cons_zero, List.set_cons_succ, i64_w, i32_w]; rfl)))
       refine drq_end ?_
       refine dr_take 18 (some 42) HT HH (v := ?_) (a' := ?_) rfl rfl (by kernel_rfl) (fun _ _ _ h => h) (.inl ⟨by rfl, ?_⟩) ?_ ?_
       rotate_left
       · rintro w' ⟨rs', HS'⟩; have e217999_0 := (hV.keepc HS' e217999_0); have e217999_1 := (hV.keepc HS' e217999_1); have e217999_2 := (hV.keepc HS' e217999_2); (try simp only [Int.toNat_zero, Int.reduceToNat, Int.toNat_natCast, Nat.zero_mul, Nat.one_mul, Nat.zero_add, Nat.add_zero, Addr.add_zero', Addr.add_succ', Nat.reduceMul, Nat.reduceAdd] at e217999_0 e217999_1 e217999_2); go_simp; with_reducible rfl
       rotate_left
       · simp only [Act.put, List.setIfInBounds_toArray, List.set_cons_zero, List.set_cons_succ, i64_w, i32_w]; rfl
       refine drq_of [(20, some 44), (21, some 45), (22, some 46)] ?_
       repeat (first | (refine drq_pure HT (v := ?_) (a' := ?_) rfl rfl (by kernel_rfl) (fun _ _ _ h => h) (.inl ⟨by rfl, ?_⟩) ?_ ?_; rotate_left; (intro w'; go_simp; with_reducible rfl); rotate_left; (simp only [Act.put, List.setIfInBounds_toArray, List.set_cons_zero, List.set_cons_succ, i64_w, i32_w]; rfl)))
       refine drq_end ?_
       refine dr_take 23 (some 47) HT HH (v := ?_) (a' := ?_) rfl rfl (by kernel_rfl) (fun _ _ _ h => h) (.inl ⟨by rfl, ?_⟩) ?_ ?_
       rotate_left
       · rintro w' ⟨rs', HS'⟩; have e222999_0 := (hV.keepc HS' e222999_0); have e222999_1 := (hV.keepc HS' e222999_1); have e222999_2 := (hV.keepc HS' e222999_2); (try simp only [Int.toNat_zero, Int.reduceToNat, Int.toNat_natCast, Nat.zero_mul, Nat.one_mul, Nat.zero_add, Nat.add_zero, Addr.add_zero', Addr.add_succ', Nat.reduceMul, Nat.reduceAdd] at e222999_0 e222999_1 e222999_2); go_simp; with_reducible rfl
       rotate_left
       · simp only [Act.put, List.setIfInBounds_toArray, List.set_cons_zero, List.set_cons_succ, i64_w, i32_w]; rfl
       refine drq_of [(25, some 49), (26, some 50), (27, some 51)] ?_
       repeat (first | (refine drq_pure HT (v := ?_) (a' := ?_) rfl rfl (by kernel_rfl) (fun _ _ _ h => h) (.inl ⟨by rfl, ?_⟩) ?_ ?_; rotate_left; (intro w'; go_simp; with_reducible rfl); rotate_left; (simp only [Act.put, List.setIfInBounds_toArray, List.set_cons_zero, List.set_cons_succ, i64_w, i32_w]; rfl)))
       refine drq_end ?_
       refine dr_take 28 (some 52) HT HH (v := ?_) (a' := ?_) rfl rfl (by kernel_rfl) (fun _ _ _ h => h) (.inl ⟨by rfl, ?_⟩) ?_ ?_
       rotate_left
       · rintro w' ⟨rs', HS'⟩; have e227999_0 := (hV.keepc HS' e227999_0); have e227999_1 := (hV.keepc HS' e227999_1); have e227999_2 := (hV.keepc HS' e227999_2); (try simp only [Int.toNat_zero, Int.reduceToNat, Int.toNat_natCast, Nat.zero_mul, Nat.one_mul, Nat.zero_add, Nat.add_zero, Addr.add_zero', Addr.add_succ', Nat.reduceMul, Nat.reduceAdd] at e227999_0 e227999_1 e227999_2); go_simp; with_reducible rfl
       rotate_left
       · simp only [Act.put, List.setIfInBounds_toArray, List.set_cons_zero, List.set_cons_succ, i64_w, i32_w]; rfl
       refine dr_any [4, 31] HT (by kernel_rfl) (by decide) (AllReadyL.cons rfl (by decide) (fun K hK => ?_) (AllReadyL.cons rfl (by decide) (fun K hK => ?_) AllReadyL.nil))
       · refine HS.lend [1] (by decide) [.box g20 [.bool t15.2.f0] 133] rfl (fun A' HL HD HA HB => ?_); refine goes_ Try.func92 (by kernel_rfl) rfl #[.pointer (some ⟨g20, 0, none⟩), .agg #[.int .i64 0, .string (⟨#[]⟩ : ByteArray), .slice B202999_2 0 d202999_2], .int .i64 4] (by rfl) rfl rfl (by simp only [List.map_toArray, List.map_cons, List.map_nil]; rfl) ?_; refine (impl_opener_texts_0.calls ht204001.out (C_zero _) (Nat.zero_le _) (hV.lend HS HL) HA).mono ?_; rintro _ wt204001 ⟨v204002, rfl, HQ⟩; refine ⟨_, rfl, ?_⟩; replace HS : Hp A37 wt15 _ [.box g2 [.slice none 0 0, .int .i64 0, .int .i64 0, .int .i64 0, .int .i64 0, .bool false] 67, .box g20 [.bool t204001.2.f0] 133, .own (Zd.slice 9 Zd.string) t204001.1 [v204002]] := HB _ _ HQ (Nat.le_of_ble_eq_true rfl); clear HQ HA HB HL HD; (try clear F); obtain ⟨B204002, d204002, rfl, m204002⟩ := HS.form 2 rfl
         replace HS : Hp A37 wt15 _ [.box g2 [.slice none 0 0, .int .i64 0, .int .i64 0, .int .i64 0, .int .i64 0, .bool false] 67, .box g20 [.bool t204001.2.f0] 133, .own (Zd.slice 9 Zd.string) t204001.1 [.slice B204002 t204001.1.length d204002]] := HS
         have F := HS.boxes; simp only [boxFacts, and_true] at F
         refine hK.out _ _ ⟨[], HS.arr [some 0, none] (by decide)⟩ (fun HH => ?_)
         clear hK K
         refine norm_ (a' := ?_) ?_ ?_
         rotate_left
         · show Act.put _ (some 28) _ = _; simp only [Act.put, List.setIfInBounds_toArray, List.set_cons_zero, List.set_cons_succ, i64_w, i32_w, c12, c18]; rfl
         refine dr_any [9, 31] HT (by kernel_rfl) (by decide) (AllReadyL.cons rfl (by decide) (fun K hK => ?_) (AllReadyL.cons rfl (by decide) (fun K hK => ?_) AllReadyL.nil))
         · refine HS.lend [1] (by decide) [.box g20 [.bool t204001.2.f0] 133] rfl (fun A' HL HD HA HB => ?_); refine goes_ Try.func93 (by kernel_rfl) rfl #[.pointer (some ⟨g20, 0, none⟩), .agg #[.int .i64 0, .string (⟨#[]⟩ : ByteArray), .slice B207999_2 0 d207999_2]] (by rfl) rfl rfl (by simp only [List.map_toArray, List.map_cons, List.map_nil]; rfl) ?_; refine (impl_opener_num_0.calls ht209001.out (C_zero _) (Nat.zero_le _) (hV.lend HS HL) HA).mono ?_; rintro _ wt209001 ⟨rfl, HQ⟩; refine ⟨_, rfl, ?_⟩; replace HS : Hp A37 wt15 _ [.box g2 [.slice none 0 0, .int .i64 0, .int .i64 0, .int .i64 0, .int .i64 0, .bool false] 67, .box g20 [.bool t209001.2.f0] 133, .own (Zd.slice 9 Zd.string) t204001.1 [.slice B204002 t204001.1.length d204002]] := HB _ _ HQ (Nat.le_of_ble_eq_true rfl); clear HQ HA HB HL HD; (try clear F)
           replace HS : Hp A37 wt15 _ [.box g2 [.slice none 0 0, .int .i64 0, .int .i64 0, .int .i64 0, .int .i64 0, .bool false] 67, .box g20 [.bool t209001.2.f0] 133, .own (Zd.slice 9 Zd.string) t204001.1 [.slice B204002 t204001.1.length d204002]] := HS
           have F := HS.boxes; simp only [boxFacts, and_true] at F
           refine hK.out _ _ ⟨[], HS.arr [some 0, none] (by decide)⟩ (fun HH => ?_)
           clear hK K
           refine norm_ (a' := ?_) ?_ ?_
           rotate_left
           · show Act.put _ (some 33) _ = _; simp only [Act.put, List.setIfInBounds_toArray, List.set_cons_zero, List.set_cons_succ, i64_w, i32_w, c12, c18]; rfl
           refine dr_any [14, 31] HT (by kernel_rfl) (by decide) (AllReadyL.cons rfl (by decide) (fun K hK => ?_) (AllReadyL.cons rfl (by decide) (fun K hK => ?_) AllReadyL.nil))
           · refine HS.lend [1] (by decide) [.box g20 [.bool t209001.2.f0] 133] rfl (fun A' HL HD HA HB => ?_); refine goes_ Try.func93 (by kernel_rfl) rfl #[.pointer (some ⟨g20, 0, none⟩), .agg #[.int .i64 0, .string (⟨#[]⟩ : ByteArray), .slice B212999_2 0 d212999_2]] (by rfl) rfl rfl (by simp only [List.map_toArray, List.map_cons, List.map_nil]; rfl) ?_; refine (impl_opener_num_0.calls ht214001.out (C_zero _) (Nat.zero_le _) (hV.lend HS HL) HA).mono ?_; rintro _ wt214001 ⟨rfl, HQ⟩; refine ⟨_, rfl, ?_⟩; replace HS : Hp A37 wt15 _ [.box g2 [.slice none 0 0, .int .i64 0, .int .i64 0, .int .i64 0, .int .i64 0, .bool false] 67, .box g20 [.bool t214001.2.f0] 133, .own (Zd.slice 9 Zd.string) t204001.1 [.slice B204002 t204001.1.length d204002]] := HB _ _ HQ (Nat.le_of_ble_eq_true rfl); clear HQ HA HB HL HD; (try clear F)
             replace HS : Hp A37 wt15 _ [.box g2 [.slice none 0 0, .int .i64 0, .int .i64 0, .int .i64 0, .int .i64 0, .bool false] 67, .box g20 [.bool t214001.2.f0] 133, .own (Zd.slice 9 Zd.string) t204001.1 [.slice B204002 t204001.1.length d204002]] := HS
             have F := HS.boxes; simp only [boxFacts, and_true] at F
             refine hK.out _ _ ⟨[], HS.arr [some 0, none] (by decide)⟩ (fun HH => ?_)
             clear hK K
             refine norm_ (a' := ?_) ?_ ?_
             rotate_left
             · show Act.put _ (some 38) _ = _; simp only [Act.put, List.setIfInBounds_toArray, List.set_cons_zero, List.set_cons_succ, i64_w, i32_w, c12, c18]; rfl
             refine dr_any [19, 31] HT (by kernel_rfl) (by decide) (AllReadyL.cons rfl (by decide) (fun K hK => ?_) (AllReadyL.cons rfl (by decide) (fun K hK => ?_) AllReadyL.nil))
             · refine HS.lend [1] (by decide) [.box g20 [.bool t214001.2.f0] 133] rfl (fun A' HL HD HA HB => ?_); refine goes_ Try.func93 (by kernel_rfl) rfl #[.pointer (some ⟨g20, 0, none⟩), .agg #[.int .i64 0, .string (⟨#[]⟩ : ByteArray), .slice B217999_2 0 d217999_2]] (by rfl) rfl rfl (by simp only [List.map_toArray, List.map_cons, List.map_nil]; rfl) ?_; refine (impl_opener_num_0.calls ht219001.out (C_zero _) (Nat.zero_le _) (hV.lend HS HL) HA).mono ?_; rintro _ wt219001 ⟨rfl, HQ⟩; refine ⟨_, rfl, ?_⟩; replace HS : Hp A37 wt15 _ [.box g2 [.slice none 0 0, .int .i64 0, .int .i64 0, .int .i64 0, .int .i64 0, .bool false] 67, .box g20 [.bool t219001.2.f0] 133, .own (Zd.slice 9 Zd.string) t204001.1 [.slice B204002 t204001.1.length d204002]] := HB _ _ HQ (Nat.le_of_ble_eq_true rfl); clear HQ HA HB HL HD; (try clear F)
               replace HS : Hp A37 wt15 _ [.box g2 [.slice none 0 0, .int .i64 0, .int .i64 0, .int .i64 0, .int .i64 0, .bool false] 67, .box g20 [.bool t219001.2.f0] 133, .own (Zd.slice 9 Zd.string) t204001.1 [.slice B204002 t204001.1.length d204002]] := HS
               have F := HS.boxes; simp only [boxFacts, and_true] at F
               refine hK.out _ _ ⟨[], HS.arr [some 0, none] (by decide)⟩ (fun HH => ?_)
               clear hK K
               refine norm_ (a' := ?_) ?_ ?_
               rotate_left
               · show Act.put _ (some 43) _ = _; simp only [Act.put, List.setIfInBounds_toArray, List.set_cons_zero, List.set_cons_succ, i64_w, i32_w, c12, c18]; rfl
               refine dr_any [24, 31] HT (by kernel_rfl) (by decide) (AllReadyL.cons rfl (by decide) (fun K hK => ?_) (AllReadyL.cons rfl (by decide) (fun K hK => ?_) AllReadyL.nil))
               · refine HS.lend [1] (by decide) [.box g20 [.bool t219001.2.f0] 133] rfl (fun A' HL HD HA HB => ?_); refine goes_ Try.func93 (by kernel_rfl) rfl #[.pointer (some ⟨g20, 0, none⟩), .agg #[.int .i64 0, .string (⟨#[]⟩ : ByteArray), .slice B222999_2 0 d222999_2]] (by rfl) rfl rfl (by simp only [List.map_toArray, List.map_cons, List.map_nil]; rfl) ?_; refine (impl_opener_num_0.calls ht224001.out (C_zero _) (Nat.zero_le _) (hV.lend HS HL) HA).mono ?_; rintro _ wt224001 ⟨rfl, HQ⟩; refine ⟨_, rfl, ?_⟩; replace HS : Hp A37 wt15 _ [.box g2 [.slice none 0 0, .int .i64 0, .int .i64 0, .int .i64 0, .int .i64 0, .bool false] 67, .box g20 [.bool t224001.2.f0] 133, .own (Zd.slice 9 Zd.string) t204001.1 [.slice B204002 t204001.1.length d204002]] := HB _ _ HQ (Nat.le_of_ble_eq_true rfl); clear HQ HA HB HL HD; (try clear F)
                 replace HS : Hp A37 wt15 _ [.box g2 [.slice none 0 0, .int .i64 0, .int .i64 0, .int .i64 0, .int .i64 0, .bool false] 67, .box g20 [.bool t224001.2.f0] 133, .own (Zd.slice 9 Zd.string) t204001.1 [.slice B204002 t204001.1.length d204002]] := HS
                 have F := HS.boxes; simp only [boxFacts, and_true] at F
                 refine hK.out _ _ ⟨[], HS.arr [some 0, none] (by decide)⟩ (fun HH => ?_)
                 clear hK K
                 refine norm_ (a' := ?_) ?_ ?_
                 rotate_left
                 · show Act.put _ (some 48) _ = _; simp only [Act.put, List.setIfInBounds_toArray, List.set_cons_zero, List.set_cons_succ, i64_w, i32_w, c12, c18]; rfl
                 refine dr_any [29, 31] HT (by kernel_rfl) (by decide) (AllReadyL.cons rfl (by decide) (fun K hK => ?_) (AllReadyL.cons rfl (by decide) (fun K hK => ?_) AllReadyL.nil))
                 · refine HS.lend [1] (by decide) [.box g20 [.bool t224001.2.f0] 133] rfl (fun A' HL HD HA HB => ?_); refine goes_ Try.func94 (by kernel_rfl) rfl #[.pointer (some ⟨g20, 0, none⟩), .agg #[.int .i64 0, .string (⟨#[]⟩ : ByteArray), .slice B227999_2 0 d227999_2]] (by rfl) rfl rfl (by simp only [List.map_toArray, List.map_cons, List.map_nil]; rfl) ?_; refine (impl_opener_flag_0.calls ht229001.out (C_zero _) (Nat.zero_le _) (hV.lend HS HL) HA).mono ?_; rintro _ wt229001 ⟨rfl, HQ⟩; refine ⟨_, rfl, ?_⟩; replace HS : Hp A37 wt15 _ [.box g2 [.slice none 0 0, .int .i64 0, .int .i64 0, .int .i64 0, .int .i64 0, .bool false] 67, .box g20 [.bool t229001.2.f0] 133, .own (Zd.slice 9 Zd.string) t204001.1 [.slice B204002 t204001.1.length d204002]] := HB _ _ HQ (Nat.le_of_ble_eq_true rfl); clear HQ HA HB HL HD; (try clear F)
                   replace HS : Hp A37 wt15 _ [.box g2 [.slice none 0 0, .int .i64 0, .int .i64 0, .int .i64 0, .int .i64 0, .bool false] 67, .box g20 [.bool t229001.2.f0] 133, .own (Zd.slice 9 Zd.string) t204001.1 [.slice B204002 t204001.1.length d204002]] := HS
                   have F := HS.boxes; simp only [boxFacts, and_true] at F
                   refine hK.out _ _ ⟨[], HS.arr [some 0, none] (by decide)⟩ (fun HH => ?_)
                   clear hK K
                   refine norm_ (a' := ?_) ?_ ?_
                   rotate_left
                   · show Act.put _ (some 53) _ = _; simp only [Act.put, List.setIfInBounds_toArray, List.set_cons_zero, List.set_cons_succ, i64_w, i32_w, c12, c18]; rfl
                   refine drq_of [(30, some 54)] ?_
                   repeat (first | (refine drq_pure HT (v := ?_) (a' := ?_) rfl rfl (by kernel_rfl) (fun _ _ _ h => h) (.inl ⟨by rfl, ?_⟩) ?_ ?_; rotate_left; (intro w'; go_simp; with_reducible rfl); rotate_left; (simp only [Act.put, List.setIfInBounds_toArray, List.set_cons_zero, List.set_cons_succ, i64_w, i32_w]; rfl)))
                   refine drq_end ?_
                   refine dr_one 31 HT rfl (by kernel_rfl) (by decide) (fun K hK => ?_)
                   refine if_wp (by rfl) ?_; refine wp_box HS (by first | (go_simp; done) | (go_simp; rfl)) rfl ?_; clear HS; (try clear F); intro g8 w8 HS
                   replace HS : Hp A37 wt15 _ [.box g2 [.slice none 0 0, .int .i64 0, .int .i64 0, .int .i64 0, .int .i64 0, .bool false] 67, .box g20 [.bool t229001.2.f0] 133, .own (Zd.slice 9 Zd.string) t204001.1 [.slice B204002 t204001.1.length d204002], .box g8 [.slice none 0 0, .int .i64 0, .int .i64 0, .int .i64 0, .int .i64 0, .bool false] 67] := HS
                   have F := HS.boxes; simp only [boxFacts, and_true] at F
                   refine hK.out _ _ ⟨[], HS.arr [some 0, none] (by decide)⟩ (fun HH => ?_)
                   clear hK K
                   refine norm_ (a' := ?_) ?_ ?_
                   rotate_left
                   · show Act.put _ (some 8) _ = _; simp only [Act.put, List.setIfInBounds_toArray, List.set_cons_zero, List.set_cons_succ, i64_w, i32_w, c12, c18]; rfl
                   refine dr_last 32 HT rfl (by kernel_rfl) (by decide) (fun K hK => ?_)
                   refine if_wp (by rfl) ?_; refine wp_store 3 0 HS (seg := [.slice B204002 t204001.1.length d204002, .int .i64 t209001.1, .int .i64 t214001.1, .int .i64 t219001.1, .int .i64 t224001.1, .bool t229001.1]) rfl rfl rfl rfl rfl rfl (by kernel_rfl) (by simp [wrt]) (by simp [Value.oneCell']) ?_; clear HS; (try clear F); intro w232001 HS
                   replace HS : Hp A37 wt15 _ [.box g2 [.slice none 0 0, .int .i64 0, .int .i64 0, .int .i64 0, .int .i64 0, .bool false] 67, .box g20 [.bool t229001.2.f0] 133, .own (Zd.slice 9 Zd.string) t204001.1 [.slice B204002 t204001.1.length d204002], .box g8 [.slice B204002 t204001.1.length d204002, .int .i64 t209001.1, .int .i64 t214001.1, .int .i64 t219001.1, .int .i64 t224001.1, .bool t229001.1] 67] := HS
                   have F := HS.boxes; simp only [boxFacts, and_true] at F
                   refine hK.out _ _ ?_
                   clear hK K
                   refine norm_ ?_ (hJ (.slice B204002 t204001.1.length d204002, g8, .pointer (some ad202999), .agg #[.int .i64 0, .string (⟨#[]⟩ : ByteArray), .slice B202999_2 0 d202999_2], .pointer (some (ad202999.add 3)), .agg #[.int .i64 0, .string (⟨#[]⟩ : ByteArray), .slice B207999_2 0 d207999_2], .pointer (some (ad202999.add 6)), .agg #[.int .i64 0, .string (⟨#[]⟩ : ByteArray), .slice B212999_2 0 d212999_2], .pointer (some (ad202999.add 9)), .agg #[.int .i64 0, .string (⟨#[]⟩ : ByteArray), .slice B217999_2 0 d217999_2], .pointer (some (ad202999.add 12)), .agg #[.int .i64 0, .string (⟨#[]⟩ : ByteArray), .slice B222999_2 0 d222999_2], .pointer (some (ad202999.add 15)), .agg #[.int .i64 0, .string (⟨#[]⟩ : ByteArray), .slice B227999_2 0 d227999_2]) _ (HS.arr [some 0, some 1, some 2, some 3] (by decide)))
                   simp only [putAll, Act.put, List.setIfInBounds_toArray, List.set_cons_zero, List.set_cons_succ, i64_w, i32_w, c12, c18]
                   (try rfl)
                 · refine if_wp (by rfl) ?_; refine wp_box HS (by first | (go_simp; done) | (go_simp; rfl)) rfl ?_; clear HS; (try clear F); intro g8 w8 HS
                   replace HS : Hp A37 wt15 _ [.box g2 [.slice none 0 0, .int .i64 0, .int .i64 0, .int .i64 0, .int .i64 0, .bool false] 67, .box g20 [.bool t224001.2.f0] 133, .own (Zd.slice 9 Zd.string) t204001.1 [.slice B204002 t204001.1.length d204002], .box g8 [.slice none 0 0, .int .i64 0, .int .i64 0, .int .i64 0, .int .i64 0, .bool false] 67] := HS
                   have F := HS.boxes; simp only [boxFacts, and_true] at F
                   refine hK.out _ _ ⟨[], HS.arr [some 0, none] (by decide)⟩ (fun HH => ?_)
                   clear hK K
                   refine norm_ (a' := ?_) ?_ ?_
                   rotate_left
                   · show Act.put _ (some 8) _ = _; simp only [Act.put, List.setIfInBounds_toArray, List.set_cons_zero, List.set_cons_succ, i64_w, i32_w, c12, c18]; rfl
                   refine dr_one 29 HT rfl (by kernel_rfl) (by decide) (fun K hK => ?_)
                   refine HS.lend [1] (by decide) [.box g20 [.bool t224001.2.f0] 133] rfl (fun A' HL HD HA HB => ?_); refine goes_ Try.func94 (by kernel_rfl) rfl #[.pointer (some ⟨g20, 0, none⟩), .agg #[.int .i64 0, .string (⟨#[]⟩ : ByteArray), .slice B227999_2 0 d227999_2]] (by rfl) rfl rfl (by simp only [List.map_toArray, List.map_cons, List.map_nil]; rfl) ?_; refine (impl_opener_flag_0.calls ht229001.out (C_zero _) (Nat.zero_le _) (hV.lend HS HL) HA).mono ?_; rintro _ wt229001 ⟨rfl, HQ⟩; refine ⟨_, rfl, ?_⟩; replace HS : Hp A37 wt15 _ [.box g2 [.slice none 0 0, .int .i64 0, .int .i64 0, .int .i64 0, .int .i64 0, .bool false] 67, .box g20 [.bool t229001.2.f0] 133, .own (Zd.slice 9 Zd.string) t204001.1 [.slice B204002 t204001.1.length d204002], .box g8 [.slice none 0 0, .int .i64 0, .int .i64 0, .int .i64 0, .int .i64 0, .bool false] 67] := HB _ _ HQ (Nat.le_of_ble_eq_true rfl); clear HQ HA HB HL HD; (try clear F)
                   replace HS : Hp A37 wt15 _ [.box g2 [.slice none 0 0, .int .i64 0, .int .i64 0, .int .i64 0, .int .i64 0, .bool false] 67, .box g20 [.bool t229001.2.f0] 133, .own (Zd.slice 9 Zd.string) t204001.1 [.slice B204002 t204001.1.length d204002], .box g8 [.slice none 0 0, .int .i64 0, .int .i64 0, .int .i64 0, .int .i64 0, .bool false] 67] := HS
                   have F := HS.boxes; simp only [boxFacts, and_true] at F
                   refine hK.out _ _ ⟨[], HS.arr [some 0, none] (by decide)⟩ (fun HH => ?_)
                   clear hK K
                   refine norm_ (a' := ?_) ?_ ?_
                   rotate_left
                   · show Act.put _ (some 53) _ = _; simp only [Act.put, List.setIfInBounds_toArray, List.set_cons_zero, List.set_cons_succ, i64_w, i32_w, c12, c18]; rfl
                   refine drq_of [(30, some 54)] ?_
                   repeat (first | (refine drq_pure HT (v := ?_) (a' := ?_) rfl rfl (by kernel_rfl) (fun _ _ _ h => h) (.inl ⟨by rfl, ?_⟩) ?_ ?_; rotate_left; (intro w'; go_simp; with_reducible rfl); rotate_left; (simp only [Act.put, List.setIfInBounds_toArray, List.set_cons_zero, List.set_cons_succ, i64_w, i32_w]; rfl)))
                   refine drq_end ?_
                   refine dr_last 32 HT rfl (by kernel_rfl) (by decide) (fun K hK => ?_)
                   refine if_wp (by rfl) ?_; refine wp_store 3 0 HS (seg := [.slice B204002 t204001.1.length d204002, .int .i64 t209001.1, .int .i64 t214001.1, .int .i64 t219001.1, .int .i64 t224001.1, .bool t229001.1]) rfl rfl rfl rfl rfl rfl (by kernel_rfl) (by simp [wrt]) (by simp [Value.oneCell']) ?_; clear HS; (try clear F); intro w232001 HS
                   replace HS : Hp A37 wt15 _ [.box g2 [.slice none 0 0, .int .i64 0, .int .i64 0, .int .i64 0, .int .i64 0, .bool false] 67, .box g20 [.bool t229001.2.f0] 133, .own (Zd.slice 9 Zd.string) t204001.1 [.slice B204002 t204001.1.length d204002], .box g8 [.slice B204002 t204001.1.length d204002, .int .i64 t209001.1, .int .i64 t214001.1, .int .i64 t219001.1, .int .i64 t224001.1, .bool t229001.1] 67] := HS
                   have F := HS.boxes; simp only [boxFacts, and_true] at F
                   refine hK.out _ _ ?_
                   clear hK K
                   refine norm_ ?_ (hJ (.slice B204002 t204001.1.length d204002, g8, .pointer (some ad202999), .agg #[.int .i64 0, .string (⟨#[]⟩ : ByteArray), .slice B202999_2 0 d202999_2], .pointer (some (ad202999.add 3)), .agg #[.int .i64 0, .string (⟨#[]⟩ : ByteArray), .slice B207999_2 0 d207999_2], .pointer (some (ad202999.add 6)), .agg #[.int .i64 0, .string (⟨#[]⟩ : ByteArray), .slice B212999_2 0 d212999_2], .pointer (some (ad202999.add 9)), .agg #[.int .i64 0, .string (⟨#[]⟩ : ByteArray), .slice B217999_2 0 d217999_2], .pointer (some (ad202999.add 12)), .agg #[.int .i64 0, .string (⟨#[]⟩ : ByteArray), .slice B222999_2 0 d222999_2], .pointer (some (ad202999.add 15)), .agg #[.int .i64 0, .string (⟨#[]⟩ : ByteArray), .slice B227999_2 0 d227999_2]) _ (HS.arr [some 0, some 1, some 2, some 3] (by decide)))
                   simp only [putAll, Act.put, List.setIfInBounds_toArray, List.set_cons_zero, List.set_cons_succ, i64_w, i32_w, c12, c18]
                   (try rfl)
               · refine if_wp (by rfl) ?_; refine wp_box HS (by first | (go_simp; done) | (go_simp; rfl)) rfl ?_; clear HS; (try clear F); intro g8 w8 HS
                 replace HS : Hp A37 wt15 _ [.box g2 [.slice none 0 0, .int .i64 0, .int .i64 0, .int .i64 0, .int .i64 0, .bool false] 67, .box g20 [.bool t219001.2.f0] 133, .own (Zd.slice 9 Zd.string) t204001.1 [.slice B204002 t204001.1.length d204002], .box g8 [.slice none 0 0, .int .i64 0, .int .i64 0, .int .i64 0, .int .i64 0, .bool false] 67] := HS
                 have F := HS.boxes; simp only [boxFacts, and_true] at F
                 refine hK.out _ _ ⟨[], HS.arr [some 0, none] (by decide)⟩ (fun HH => ?_)
                 clear hK K
                 refine norm_ (a' := ?_) ?_ ?_
                 rotate_left
                 · show Act.put _ (some 8) _ = _; simp only [Act.put, List.setIfInBounds_toArray, List.set_cons_zero, List.set_cons_succ, i64_w, i32_w, c12, c18]; rfl
                 refine dr_one 24 HT rfl (by kernel_rfl) (by decide) (fun K hK => ?_)
                 refine HS.lend [1] (by decide) [.box g20 [.bool t219001.2.f0] 133] rfl (fun A' HL HD HA HB => ?_); refine goes_ Try.func93 (by kernel_rfl) rfl #[.pointer (some ⟨g20, 0, none⟩), .agg #[.int .i64 0, .string (⟨#[]⟩ : ByteArray), .slice B222999_2 0 d222999_2]] (by rfl) rfl rfl (by simp only [List.map_toArray, List.map_cons, List.map_nil]; rfl) ?_; refine (impl_opener_num_0.calls ht224001.out (C_zero _) (Nat.zero_le _) (hV.lend HS HL) HA).mono ?_; rintro _ wt224001 ⟨rfl, HQ⟩; refine ⟨_, rfl, ?_⟩; replace HS : Hp A37 wt15 _ [.box g2 [.slice none 0 0, .int .i64 0, .int .i64 0, .int .i64 0, .int .i64 0, .bool false] 67, .box g20 [.bool t224001.2.f0] 133, .own (Zd.slice 9 Zd.string) t204001.1 [.slice B204002 t204001.1.length d204002], .box g8 [.slice none 0 0, .int .i64 0, .int .i64 0, .int .i64 0, .int .i64 0, .bool false] 67] := HB _ _ HQ (Nat.le_of_ble_eq_true rfl); clear HQ HA HB HL HD; (try clear F)
                 replace HS : Hp A37 wt15 _ [.box g2 [.slice none 0 0, .int .i64 0, .int .i64 0, .int .i64 0, .int .i64 0, .bool false] 67, .box g20 [.bool t224001.2.f0] 133, .own (Zd.slice 9 Zd.string) t204001.1 [.slice B204002 t204001.1.length d204002], .box g8 [.slice none 0 0, .int .i64 0, .int .i64 0, .int .i64 0, .int .i64 0, .bool false] 67] := HS
                 have F := HS.boxes; simp only [boxFacts, and_true] at F
                 refine hK.out _ _ ⟨[], HS.arr [some 0, none] (by decide)⟩ (fun HH => ?_)
                 clear hK K
                 refine norm_ (a' := ?_) ?_ ?_
                 rotate_left
                 · show Act.put _ (some 48) _ = _; simp only [Act.put, List.setIfInBounds_toArray, List.set_cons_zero, List.set_cons_succ, i64_w, i32_w, c12, c18]; rfl
                 refine dr_one 29 HT rfl (by kernel_rfl) (by decide) (fun K hK => ?_)
                 refine HS.lend [1] (by decide) [.box g20 [.bool t224001.2.f0] 133] rfl (fun A' HL HD HA HB => ?_); refine goes_ Try.func94 (by kernel_rfl) rfl #[.pointer (some ⟨g20, 0, none⟩), .agg #[.int .i64 0, .string (⟨#[]⟩ : ByteArray), .slice B227999_2 0 d227999_2]] (by rfl) rfl rfl (by simp only [List.map_toArray, List.map_cons, List.map_nil]; rfl) ?_; refine (impl_opener_flag_0.calls ht229001.out (C_zero _) (Nat.zero_le _) (hV.lend HS HL) HA).mono ?_; rintro _ wt229001 ⟨rfl, HQ⟩; refine ⟨_, rfl, ?_⟩; replace HS : Hp A37 wt15 _ [.box g2 [.slice none 0 0, .int .i64 0, .int .i64 0, .int .i64 0, .int .i64 0, .bool false] 67, .box g20 [.bool t229001.2.f0] 133, .own (Zd.slice 9 Zd.string) t204001.1 [.slice B204002 t204001.1.length d204002], .box g8 [.slice none 0 0, .int .i64 0, .int .i64 0, .int .i64 0, .int .i64 0, .bool false] 67] := HB _ _ HQ (Nat.le_of_ble_eq_true rfl); clear HQ HA HB HL HD; (try clear F)
                 replace HS : Hp A37 wt15 _ [.box g2 [.slice none 0 0, .int .i64 0, .int .i64 0, .int .i64 0, .int .i64 0, .bool false] 67, .box g20 [.bool t229001.2.f0] 133, .own (Zd.slice 9 Zd.string) t204001.1 [.slice B204002 t204001.1.length d204002], .box g8 [.slice none 0 0, .int .i64 0, .int .i64 0, .int .i64 0, .int .i64 0, .bool false] 67] := HS
                 have F := HS.boxes; simp only [boxFacts, and_true] at F
                 refine hK.out _ _ ⟨[], HS.arr [some 0, none] (by decide)⟩ (fun HH => ?_)
                 clear hK K
                 refine norm_ (a' := ?_) ?_ ?_
                 rotate_left
                 · show Act.put _ (some 53) _ = _; simp only [Act.put, List.setIfInBounds_toArray, List.set_cons_zero, List.set_cons_succ, i64_w, i32_w, c12, c18]; rfl
                 refine drq_of [(30, some 54)] ?_
                 repeat (first | (refine drq_pure HT (v := ?_) (a' := ?_) rfl rfl (by kernel_rfl) (fun _ _ _ h => h) (.inl ⟨by rfl, ?_⟩) ?_ ?_; rotate_left; (intro w'; go_simp; with_reducible rfl); rotate_left; (simp only [Act.put, List.setIfInBounds_toArray, List.set_cons_zero, List.set_cons_succ, i64_w, i32_w]; rfl)))
                 refine drq_end ?_
                 refine dr_last 32 HT rfl (by kernel_rfl) (by decide) (fun K hK => ?_)
                 refine if_wp (by rfl) ?_; refine wp_store 3 0 HS (seg := [.slice B204002 t204001.1.length d204002, .int .i64 t209001.1, .int .i64 t214001.1, .int .i64 t219001.1, .int .i64 t224001.1, .bool t229001.1]) rfl rfl rfl rfl rfl rfl (by kernel_rfl) (by simp [wrt]) (by simp [Value.oneCell']) ?_; clear HS; (try clear F); intro w232001 HS
                 replace HS : Hp A37 wt15 _ [.box g2 [.slice none 0 0, .int .i64 0, .int .i64 0, .int .i64 0, .int .i64 0, .bool false] 67, .box g20 [.bool t229001.2.f0] 133, .own (Zd.slice 9 Zd.string) t204001.1 [.slice B204002 t204001.1.length d204002], .box g8 [.slice B204002 t204001.1.length d204002, .int .i64 t209001.1, .int .i64 t214001.1, .int .i64 t219001.1, .int .i64 t224001.1, .bool t229001.1] 67] := HS
                 have F := HS.boxes; simp only [boxFacts, and_true] at F
                 refine hK.out _ _ ?_
                 clear hK K
                 refine norm_ ?_ (hJ (.slice B204002 t204001.1.length d204002, g8, .pointer (some ad202999), .agg #[.int .i64 0, .string (⟨#[]⟩ : ByteArray), .slice B202999_2 0 d202999_2], .pointer (some (ad202999.add 3)), .agg #[.int .i64 0, .string (⟨#[]⟩ : ByteArray), .slice B207999_2 0 d207999_2], .pointer (some (ad202999.add 6)), .agg #[.int .i64 0, .string (⟨#[]⟩ : ByteArray), .slice B212999_2 0 d212999_2], .pointer (some (ad202999.add 9)), .agg #[.int .i64 0, .string (⟨#[]⟩ : ByteArray), .slice B217999_2 0 d217999_2], .pointer (some (ad202999.add 12)), .agg #[.int .i64 0, .string (⟨#[]⟩ : ByteArray), .slice B222999_2 0 d222999_2], .pointer (some (ad202999.add 15)), .agg #[.int .i64 0, .string (⟨#[]⟩ : ByteArray), .slice B227999_2 0 d227999_2]) _ (HS.arr [some 0, some 1, some 2, some 3] (by decide)))
                 simp only [putAll, Act.put, List.setIfInBounds_toArray, List.set_cons_zero, List.set_cons_succ, i64_w, i32_w, c12, c18]
                 (try rfl)
             · refine if_wp (by rfl) ?_; refine wp_box HS (by first | (go_simp; done) | (go_simp; rfl)) rfl ?_; clear HS; (try clear F); intro g8 w8 HS
               replace HS : Hp A37 wt15 _ [.box g2 [.slice none 0 0, .int .i64 0, .int .i64 0, .int .i64 0, .int .i64 0, .bool false] 67, .box g20 [.bool t214001.2.f0] 133, .own (Zd.slice 9 Zd.string) t204001.1 [.slice B204002 t204001.1.length d204002], .box g8 [.slice none 0 0, .int .i64 0, .int .i64 0, .int .i64 0, .int .i64 0, .bool false] 67] := HS
               have F := HS.boxes; simp only [boxFacts, and_true] at F
               refine hK.out _ _ ⟨[], HS.arr [some 0, none] (by decide)⟩ (fun HH => ?_)
               clear hK K
               refine norm_ (a' := ?_) ?_ ?_
               rotate_left
               · show Act.put _ (some 8) _ = _; simp only [Act.put, List.setIfInBounds_toArray, List.set_cons_zero, List.set_cons_succ, i64_w, i32_w, c12, c18]; rfl
               refine dr_one 19 HT rfl (by kernel_rfl) (by decide) (fun K hK => ?_)
               refine HS.lend [1] (by decide) [.box g20 [.bool t214001.2.f0] 133] rfl (fun A' HL HD HA HB => ?_); refine goes_ Try.func93 (by kernel_rfl) rfl #[.pointer (some ⟨g20, 0, none⟩), .agg #[.int .i64 0, .string (⟨#[]⟩ : ByteArray), .slice B217999_2 0 d217999_2]] (by rfl) rfl rfl (by simp only [List.map_toArray, List.map_cons, List.map_nil]; rfl) ?_; refine (impl_opener_num_0.calls ht219001.out (C_zero _) (Nat.zero_le _) (hV.lend HS HL) HA).mono ?_; rintro _ wt219001 ⟨rfl, HQ⟩; refine ⟨_, rfl, ?_⟩; replace HS : Hp A37 wt15 _ [.box g2 [.slice none 0 0, .int .i64 0, .int .i64 0, .int .i64 0, .int .i64 0, .bool false] 67, .box g20 [.bool t219001.2.f0] 133, .own (Zd.slice 9 Zd.string) t204001.1 [.slice B204002 t204001.1.length d204002], .box g8 [.slice none 0 0, .int .i64 0, .int .i64 0, .int .i64 0, .int .i64 0, .bool false] 67] := HB _ _ HQ (Nat.le_of_ble_eq_true rfl); clear HQ HA HB HL HD; (try clear F)
               replace HS : Hp A37 wt15 _ [.box g2 [.slice none 0 0, .int .i64 0, .int .i64 0, .int .i64 0, .int .i64 0, .bool false] 67, .box g20 [.bool t219001.2.f0] 133, .own (Zd.slice 9 Zd.string) t204001.1 [.slice B204002 t204001.1.length d204002], .box g8 [.slice none 0 0, .int .i64 0, .int .i64 0, .int .i64 0, .int .i64 0, .bool false] 67] := HS
               have F := HS.boxes; simp only [boxFacts, and_true] at F
               refine hK.out _ _ ⟨[], HS.arr [some 0, none] (by decide)⟩ (fun HH => ?_)
               clear hK K
               refine norm_ (a' := ?_) ?_ ?_
               rotate_left
               · show Act.put _ (some 43) _ = _; simp only [Act.put, List.setIfInBounds_toArray, List.set_cons_zero, List.set_cons_succ, i64_w, i32_w, c12, c18]; rfl
               refine dr_one 24 HT rfl (by kernel_rfl) (by decide) (fun K hK => ?_)
               refine HS.lend [1] (by decide) [.box g20 [.bool t219001.2.f0] 133] rfl (fun A' HL HD HA HB => ?_); refine goes_ Try.func93 (by kernel_rfl) rfl #[.pointer (some ⟨g20, 0, none⟩), .agg #[.int .i64 0, .string (⟨#[]⟩ : ByteArray), .slice B222999_2 0 d222999_2]] (by rfl) rfl rfl (by simp only [List.map_toArray, List.map_cons, List.map_nil]; rfl) ?_; refine (impl_opener_num_0.calls ht224001.out (C_zero _) (Nat.zero_le _) (hV.lend HS HL) HA).mono ?_; rintro _ wt224001 ⟨rfl, HQ⟩; refine ⟨_, rfl, ?_⟩; replace HS : Hp A37 wt15 _ [.box g2 [.slice none 0 0, .int .i64 0, .int .i64 0, .int .i64 0, .int .i64 0, .bool false] 67, .box g20 [.bool t224001.2.f0] 133, .own (Zd.slice 9 Zd.string) t204001.1 [.slice B204002 t204001.1.length d204002], .box g8 [.slice none 0 0, .int .i64 0, .int .i64 0, .int .i64 0, .int .i64 0, .bool false] 67] := HB _ _ HQ (Nat.le_of_ble_eq_true rfl); clear HQ HA HB HL HD; (try clear F)
               replace HS : Hp A37 wt15 _ [.box g2 [.slice none 0 0, .int .i64 0, .int .i64 0, .int .i64 0, .int .i64 0, .bool false] 67, .box g20 [.bool t224001.2.f0] 133, .own (Zd.slice 9 Zd.string) t204001.1 [.slice B204002 t204001.1.length d204002], .box g8 [.slice none 0 0, .int .i64 0, .int .i64 0, .int .i64 0, .int .i64 0, .bool false] 67] := HS
               have F := HS.boxes; simp only [boxFacts, and_true] at F
               refine hK.out _ _ ⟨[], HS.arr [some 0, none] (by decide)⟩ (fun HH => ?_)
               clear hK K
               refine norm_ (a' := ?_) ?_ ?_
               rotate_left
               · show Act.put _ (some 48) _ = _; simp only [Act.put, List.setIfInBounds_toArray, List.set_cons_zero, List.set_cons_succ, i64_w, i32_w, c12, c18]; rfl
               refine dr_one 29 HT rfl (by kernel_rfl) (by decide) (fun K hK => ?_)
               refine HS.lend [1] (by decide) [.box g20 [.bool t224001.2.f0] 133] rfl (fun A' HL HD HA HB => ?_); refine goes_ Try.func94 (by kernel_rfl) rfl #[.pointer (some ⟨g20, 0, none⟩), .agg #[.int .i64 0, .string (⟨#[]⟩ : ByteArray), .slice B227999_2 0 d227999_2]] (by rfl) rfl rfl (by simp only [List.map_toArray, List.map_cons, List.map_nil]; rfl) ?_; refine (impl_opener_flag_0.calls ht229001.out (C_zero _) (Nat.zero_le _) (hV.lend HS HL) HA).mono ?_; rintro _ wt229001 ⟨rfl, HQ⟩; refine ⟨_, rfl, ?_⟩; replace HS : Hp A37 wt15 _ [.box g2 [.slice none 0 0, .int .i64 0, .int .i64 0, .int .i64 0, .int .i64 0, .bool false] 67, .box g20 [.bool t229001.2.f0] 133, .own (Zd.slice 9 Zd.string) t204001.1 [.slice B204002 t204001.1.length d204002], .box g8 [.slice none 0 0, .int .i64 0, .int .i64 0, .int .i64 0, .int .i64 0, .bool false] 67] := HB _ _ HQ (Nat.le_of_ble_eq_true rfl); clear HQ HA HB HL HD; (try clear F)
               replace HS : Hp A37 wt15 _ [.box g2 [.slice none 0 0, .int .i64 0, .int .i64 0, .int .i64 0, .int .i64 0, .bool false] 67, .box g20 [.bool t229001.2.f0] 133, .own (Zd.slice 9 Zd.string) t204001.1 [.slice B204002 t204001.1.length d204002], .box g8 [.slice none 0 0, .int .i64 0, .int .i64 0, .int .i64 0, .int .i64 0, .bool false] 67] := HS
               have F := HS.boxes; simp only [boxFacts, and_true] at F
               refine hK.out _ _ ⟨[], HS.arr [some 0, none] (by decide)⟩ (fun HH => ?_)
               clear hK K
               refine norm_ (a' := ?_) ?_ ?_
               rotate_left
               · show Act.put _ (some 53) _ = _; simp only [Act.put, List.setIfInBounds_toArray, List.set_cons_zero, List.set_cons_succ, i64_w, i32_w, c12, c18]; rfl
               refine drq_of [(30, some 54)] ?_
               repeat (first | (refine drq_pure HT (v := ?_) (a' := ?_) rfl rfl (by kernel_rfl) (fun _ _ _ h => h) (.inl ⟨by rfl, ?_⟩) ?_ ?_; rotate_left; (intro w'; go_simp; with_reducible rfl); rotate_left; (simp only [Act.put, List.setIfInBounds_toArray, List.set_cons_zero, List.set_cons_succ, i64_w, i32_w]; rfl)))
               refine drq_end ?_
               refine dr_last 32 HT rfl (by kernel_rfl) (by decide) (fun K hK => ?_)
               refine if_wp (by rfl) ?_; refine wp_store 3 0 HS (seg := [.slice B204002 t204001.1.length d204002, .int .i64 t209001.1, .int .i64 t214001.1, .int .i64 t219001.1, .int .i64 t224001.1, .bool t229001.1]) rfl rfl rfl rfl rfl rfl (by kernel_rfl) (by simp [wrt]) (by simp [Value.oneCell']) ?_; clear HS; (try clear F); intro w232001 HS
               replace HS : Hp A37 wt15 _ [.box g2 [.slice none 0 0, .int .i64 0, .int .i64 0, .int .i64 0, .int .i64 0, .bool false] 67, .box g20 [.bool t229001.2.f0] 133, .own (Zd.slice 9 Zd.string) t204001.1 [.slice B204002 t204001.1.length d204002], .box g8 [.slice B204002 t204001.1.length d204002, .int .i64 t209001.1, .int .i64 t214001.1, .int .i64 t219001.1, .int .i64 t224001.1, .bool t229001.1] 67] := HS
               have F := HS.boxes; simp only [boxFacts, and_true] at F
               refine hK.out _ _ ?_
               clear hK K
               refine norm_ ?_ (hJ (.slice B204002 t204001.1.length d204002, g8, .pointer (some ad202999), .agg #[.int .i64 0, .string (⟨#[]⟩ : ByteArray), .slice B202999_2 0 d202999_2], .pointer (some (ad202999.add 3)), .agg #[.int .i64 0, .string (⟨#[]⟩ : ByteArray), .slice B207999_2 0 d207999_2], .pointer (some (ad202999.add 6)), .agg #[.int .i64 0, .string (⟨#[]⟩ : ByteArray), .slice B212999_2 0 d212999_2], .pointer (some (ad202999.add 9)), .agg #[.int .i64 0, .string (⟨#[]⟩ : ByteArray), .slice B217999_2 0 d217999_2], .pointer (some (ad202999.add 12)), .agg #[.int .i64 0, .string (⟨#[]⟩ : ByteArray), .slice B222999_2 0 d222999_2], .pointer (some (ad202999.add 15)), .agg #[.int .i64 0, .string (⟨#[]⟩ : ByteArray), .slice B227999_2 0 d227999_2]) _ (HS.arr [some 0, some 1, some 2, some 3] (by decide)))
               simp only [putAll, Act.put, List.setIfInBounds_toArray, List.set_cons_zero, List.set_cons_succ, i64_w, i32_w, c12, c18]
               (try rfl)
           · refine if_wp (by rfl) ?_; refine wp_box HS (by first | (go_simp; done) | (go_simp; rfl)) rfl ?_; clear HS; (try clear F); intro g8 w8 HS
             replace HS : Hp A37 wt15 _ [.box g2 [.slice none 0 0, .int .i64 0, .int .i64 0, .int .i64 0, .int .i64 0, .bool false] 67, .box g20 [.bool t209001.2.f0] 133, .own (Zd.slice 9 Zd.string) t204001.1 [.slice B204002 t204001.1.length d204002], .box g8 [.slice none 0 0, .int .i64 0, .int .i64 0, .int .i64 0, .int .i64 0, .bool false] 67] := HS
             have F := HS.boxes; simp only [boxFacts, and_true] at F
             refine hK.out _ _ ⟨[], HS.arr [some 0, none] (by decide)⟩ (fun HH => ?_)
             clear hK K
             refine norm_ (a' := ?_) ?_ ?_
             rotate_left
             · show Act.put _ (some 8) _ = _; simp only [Act.put, List.setIfInBounds_toArray, List.set_cons_zero, List.set_cons_succ, i64_w, i32_w, c12, c18]; rfl
             refine dr_one 14 HT rfl (by kernel_rfl) (by decide) (fun K hK => ?_)
             refine HS.lend [1] (by decide) [.box g20 [.bool t209001.2.f0] 133] rfl (fun A' HL HD HA HB => ?_); refine goes_ Try.func93 (by kernel_rfl) rfl #[.pointer (some ⟨g20, 0, none⟩), .agg #[.int .i64 0, .string (⟨#[]⟩ : ByteArray), .slice B212999_2 0 d212999_2]] (by rfl) rfl rfl (by simp only [List.map_toArray, List.map_cons, List.map_nil]; rfl) ?_; refine (impl_opener_num_0.calls ht214001.out (C_zero _) (Nat.zero_le _) (hV.lend HS HL) HA).mono ?_; rintro _ wt214001 ⟨rfl, HQ⟩; refine ⟨_, rfl, ?_⟩; replace HS : Hp A37 wt15 _ [.box g2 [.slice none 0 0, .int .i64 0, .int .i64 0, .int .i64 0, .int .i64 0, .bool false] 67, .box g20 [.bool t214001.2.f0] 133, .own (Zd.slice 9 Zd.string) t204001.1 [.slice B204002 t204001.1.length d204002], .box g8 [.slice none 0 0, .int .i64 0, .int .i64 0, .int .i64 0, .int .i64 0, .bool false] 67] := HB _ _ HQ (Nat.le_of_ble_eq_true rfl); clear HQ HA HB HL HD; (try clear F)
             replace HS : Hp A37 wt15 _ [.box g2 [.slice none 0 0, .int .i64 0, .int .i64 0, .int .i64 0, .int .i64 0, .bool false] 67, .box g20 [.bool t214001.2.f0] 133, .own (Zd.slice 9 Zd.string) t204001.1 [.slice B204002 t204001.1.length d204002], .box g8 [.slice none 0 0, .int .i64 0, .int .i64 0, .int .i64 0, .int .i64 0, .bool false] 67] := HS
             have F := HS.boxes; simp only [boxFacts, and_true] at F
             refine hK.out _ _ ⟨[], HS.arr [some 0, none] (by decide)⟩ (fun HH => ?_)
             clear hK K
             refine norm_ (a' := ?_) ?_ ?_
             rotate_left
             · show Act.put _ (some 38) _ = _; simp only [Act.put, List.setIfInBounds_toArray, List.set_cons_zero, List.set_cons_succ, i64_w, i32_w, c12, c18]; rfl
             refine dr_one 19 HT rfl (by kernel_rfl) (by decide) (fun K hK => ?_)
             refine HS.lend [1] (by decide) [.box g20 [.bool t214001.2.f0] 133] rfl (fun A' HL HD HA HB => ?_); refine goes_ Try.func93 (by kernel_rfl) rfl #[.pointer (some ⟨g20, 0, none⟩), .agg #[.int .i64 0, .string (⟨#[]⟩ : ByteArray), .slice B217999_2 0 d217999_2]] (by rfl) rfl rfl (by simp only [List.map_toArray, List.map_cons, List.map_nil]; rfl) ?_; refine (impl_opener_num_0.calls ht219001.out (C_zero _) (Nat.zero_le _) (hV.lend HS HL) HA).mono ?_; rintro _ wt219001 ⟨rfl, HQ⟩; refine ⟨_, rfl, ?_⟩; replace HS : Hp A37 wt15 _ [.box g2 [.slice none 0 0, .int .i64 0, .int .i64 0, .int .i64 0, .int .i64 0, .bool false] 67, .box g20 [.bool t219001.2.f0] 133, .own (Zd.slice 9 Zd.string) t204001.1 [.slice B204002 t204001.1.length d204002], .box g8 [.slice none 0 0, .int .i64 0, .int .i64 0, .int .i64 0, .int .i64 0, .bool false] 67] := HB _ _ HQ (Nat.le_of_ble_eq_true rfl); clear HQ HA HB HL HD; (try clear F)
             replace HS : Hp A37 wt15 _ [.box g2 [.slice none 0 0, .int .i64 0, .int .i64 0, .int .i64 0, .int .i64 0, .bool false] 67, .box g20 [.bool t219001.2.f0] 133, .own (Zd.slice 9 Zd.string) t204001.1 [.slice B204002 t204001.1.length d204002], .box g8 [.slice none 0 0, .int .i64 0, .int .i64 0, .int .i64 0, .int .i64 0, .bool false] 67] := HS
             have F := HS.boxes; simp only [boxFacts, and_true] at F
             refine hK.out _ _ ⟨[], HS.arr [some 0, none] (by decide)⟩ (fun HH => ?_)
             clear hK K
             refine norm_ (a' := ?_) ?_ ?_
             rotate_left
             · show Act.put _ (some 43) _ = _; simp only [Act.put, List.setIfInBounds_toArray, List.set_cons_zero, List.set_cons_succ, i64_w, i32_w, c12, c18]; rfl
             refine dr_one 24 HT rfl (by kernel_rfl) (by decide) (fun K hK => ?_)
             refine HS.lend [1] (by decide) [.box g20 [.bool t219001.2.f0] 133] rfl (fun A' HL HD HA HB => ?_); refine goes_ Try.func93 (by kernel_rfl) rfl #[.pointer (some ⟨g20, 0, none⟩), .agg #[.int .i64 0, .string (⟨#[]⟩ : ByteArray), .slice B222999_2 0 d222999_2]] (by rfl) rfl rfl (by simp only [List.map_toArray, List.map_cons, List.map_nil]; rfl) ?_; refine (impl_opener_num_0.calls ht224001.out (C_zero _) (Nat.zero_le _) (hV.lend HS HL) HA).mono ?_; rintro _ wt224001 ⟨rfl, HQ⟩; refine ⟨_, rfl, ?_⟩; replace HS : Hp A37 wt15 _ [.box g2 [.slice none 0 0, .int .i64 0, .int .i64 0, .int .i64 0, .int .i64 0, .bool false] 67, .box g20 [.bool t224001.2.f0] 133, .own (Zd.slice 9 Zd.string) t204001.1 [.slice B204002 t204001.1.length d204002], .box g8 [.slice none 0 0, .int .i64 0, .int .i64 0, .int .i64 0, .int .i64 0, .bool false] 67] := HB _ _ HQ (Nat.le_of_ble_eq_true rfl); clear HQ HA HB HL HD; (try clear F)
             replace HS : Hp A37 wt15 _ [.box g2 [.slice none 0 0, .int .i64 0, .int .i64 0, .int .i64 0, .int .i64 0, .bool false] 67, .box g20 [.bool t224001.2.f0] 133, .own (Zd.slice 9 Zd.string) t204001.1 [.slice B204002 t204001.1.length d204002], .box g8 [.slice none 0 0, .int .i64 0, .int .i64 0, .int .i64 0, .int .i64 0, .bool false] 67] := HS
             have F := HS.boxes; simp only [boxFacts, and_true] at F
             refine hK.out _ _ ⟨[], HS.arr [some 0, none] (by decide)⟩ (fun HH => ?_)
             clear hK K
             refine norm_ (a' := ?_) ?_ ?_
             rotate_left
             · show Act.put _ (some 48) _ = _; simp only [Act.put, List.setIfInBounds_toArray, List.set_cons_zero, List.set_cons_succ, i64_w, i32_w, c12, c18]; rfl
             refine dr_one 29 HT rfl (by kernel_rfl) (by decide) (fun K hK => ?_)
             refine HS.lend [1] (by decide) [.box g20 [.bool t224001.2.f0] 133] rfl (fun A' HL HD HA HB => ?_); refine goes_ Try.func94 (by kernel_rfl) rfl #[.pointer (some ⟨g20, 0, none⟩), .agg #[.int .i64 0, .string (⟨#[]⟩ : ByteArray), .slice B227999_2 0 d227999_2]] (by rfl) rfl rfl (by simp only [List.map_toArray, List.map_cons, List.map_nil]; rfl) ?_; refine (impl_opener_flag_0.calls ht229001.out (C_zero _) (Nat.zero_le _) (hV.lend HS HL) HA).mono ?_; rintro _ wt229001 ⟨rfl, HQ⟩; refine ⟨_, rfl, ?_⟩; replace HS : Hp A37 wt15 _ [.box g2 [.slice none 0 0, .int .i64 0, .int .i64 0, .int .i64 0, .int .i64 0, .bool false] 67, .box g20 [.bool t229001.2.f0] 133, .own (Zd.slice 9 Zd.string) t204001.1 [.slice B204002 t204001.1.length d204002], .box g8 [.slice none 0 0, .int .i64 0, .int .i64 0, .int .i64 0, .int .i64 0, .bool false] 67] := HB _ _ HQ (Nat.le_of_ble_eq_true rfl); clear HQ HA HB HL HD; (try clear F)
             replace HS : Hp A37 wt15 _ [.box g2 [.slice none 0 0, .int .i64 0, .int .i64 0, .int .i64 0, .int .i64 0, .bool false] 67, .box g20 [.bool t229001.2.f0] 133, .own (Zd.slice 9 Zd.string) t204001.1 [.slice B204002 t204001.1.length d204002], .box g8 [.slice none 0 0, .int .i64 0, .int .i64 0, .int .i64 0, .int .i64 0, .bool false] 67] := HS
             have F := HS.boxes; simp only [boxFacts, and_true] at F
             refine hK.out _ _ ⟨[], HS.arr [some 0, none] (by decide)⟩ (fun HH => ?_)
             clear hK K
             refine norm_ (a' := ?_) ?_ ?_
             rotate_left
             · show Act.put _ (some 53) _ = _; simp only [Act.put, List.setIfInBounds_toArray, List.set_cons_zero, List.set_cons_succ, i64_w, i32_w, c12, c18]; rfl
             refine drq_of [(30, some 54)] ?_
             repeat (first | (refine drq_pure HT (v := ?_) (a' := ?_) rfl rfl (by kernel_rfl) (fun _ _ _ h => h) (.inl ⟨by rfl, ?_⟩) ?_ ?_; rotate_left; (intro w'; go_simp; with_reducible rfl); rotate_left; (simp only [Act.put, List.setIfInBounds_toArray, List.set_cons_zero, List.set_cons_succ, i64_w, i32_w]; rfl)))
             refine drq_end ?_
             refine dr_last 32 HT rfl (by kernel_rfl) (by decide) (fun K hK => ?_)
             refine if_wp (by rfl) ?_; refine wp_store 3 0 HS (seg := [.slice B204002 t204001.1.length d204002, .int .i64 t209001.1, .int .i64 t214001.1, .int .i64 t219001.1, .int .i64 t224001.1, .bool t229001.1]) rfl rfl rfl rfl rfl rfl (by kernel_rfl) (by simp [wrt]) (by simp [Value.oneCell']) ?_; clear HS; (try clear F); intro w232001 HS
             replace HS : Hp A37 wt15 _ [.box g2 [.slice none 0 0, .int .i64 0, .int .i64 0, .int .i64 0, .int .i64 0, .bool false] 67, .box g20 [.bool t229001.2.f0] 133, .own (Zd.slice 9 Zd.string) t204001.1 [.slice B204002 t204001.1.length d204002], .box g8 [.slice B204002 t204001.1.length d204002, .int .i64 t209001.1, .int .i64 t214001.1, .int .i64 t219001.1, .int .i64 t224001.1, .bool t229001.1] 67] := HS
             have F := HS.boxes; simp only [boxFacts, and_true] at F
             refine hK.out _ _ ?_
             clear hK K
             refine norm_ ?_ (hJ (.slice B204002 t204001.1.length d204002, g8, .pointer (some ad202999), .agg #[.int .i64 0, .string (⟨#[]⟩ : ByteArray), .slice B202999_2 0 d202999_2], .pointer (some (ad202999.add 3)), .agg #[.int .i64 0, .string (⟨#[]⟩ : ByteArray), .slice B207999_2 0 d207999_2], .pointer (some (ad202999.add 6)), .agg #[.int .i64 0, .string (⟨#[]⟩ : ByteArray), .slice B212999_2 0 d212999_2], .pointer (some (ad202999.add 9)), .agg #[.int .i64 0, .string (⟨#[]⟩ : ByteArray), .slice B217999_2 0 d217999_2], .pointer (some (ad202999.add 12)), .agg #[.int .i64 0, .string (⟨#[]⟩ : ByteArray), .slice B222999_2 0 d222999_2], .pointer (some (ad202999.add 15)), .agg #[.int .i64 0, .string (⟨#[]⟩ : ByteArray), .slice B227999_2 0 d227999_2]) _ (HS.arr [some 0, some 1, some 2, some 3] (by decide)))
             simp only [putAll, Act.put, List.setIfInBounds_toArray, List.set_cons_zero, List.set_cons_succ, i64_w, i32_w, c12, c18]
             (try rfl)
         · refine if_wp (by rfl) ?_; refine wp_box HS (by first | (go_simp; done) | (go_simp; rfl)) rfl ?_; clear HS; (try clear F); intro g8 w8 HS
           replace HS : Hp A37 wt15 _ [.box g2 [.slice none 0 0, .int .i64 0, .int .i64 0, .int .i64 0, .int .i64 0, .bool false] 67, .box g20 [.bool t204001.2.f0] 133, .own (Zd.slice 9 Zd.string) t204001.1 [.slice B204002 t204001.1.length d204002], .box g8 [.slice none 0 0, .int .i64 0, .int .i64 0, .int .i64 0, .int .i64 0, .bool false] 67] := HS
           have F := HS.boxes; simp only [boxFacts, and_true] at F
           refine hK.out _ _ ⟨[], HS.arr [some 0, none] (by decide)⟩ (fun HH => ?_)
           clear hK K
           refine norm_ (a' := ?_) ?_ ?_
           rotate_left
           · show Act.put _ (some 8) _ = _; simp only [Act.put, List.setIfInBounds_toArray, List.set_cons_zero, List.set_cons_succ, i64_w, i32_w, c12, c18]; rfl
           refine dr_one 9 HT rfl (by kernel_rfl) (by decide) (fun K hK => ?_)
           refine HS.lend [1] (by decide) [.box g20 [.bool t204001.2.f0] 133] rfl (fun A' HL HD HA HB => ?_); refine goes_ Try.func93 (by kernel_rfl) rfl #[.pointer (some ⟨g20, 0, none⟩), .agg #[.int .i64 0, .string (⟨#[]⟩ : ByteArray), .slice B207999_2 0 d207999_2]] (by rfl) rfl rfl (by simp only [List.map_toArray, List.map_cons, List.map_nil]; rfl) ?_; refine (impl_opener_num_0.calls ht209001.out (C_zero _) (Nat.zero_le _) (hV.lend HS HL) HA).mono ?_; rintro _ wt209001 ⟨rfl, HQ⟩; refine ⟨_, rfl, ?_⟩; replace HS : Hp A37 wt15 _ [.box g2 [.slice none 0 0, .int .i64 0, .int .i64 0, .int .i64 0, .int .i64 0, .bool false] 67, .box g20 [.bool t209001.2.f0] 133, .own (Zd.slice 9 Zd.string) t204001.1 [.slice B204002 t204001.1.length d204002], .box g8 [.slice none 0 0, .int .i64 0, .int .i64 0, .int .i64 0, .int .i64 0, .bool false] 67] := HB _ _ HQ (Nat.le_of_ble_eq_true rfl); clear HQ HA HB HL HD; (try clear F)
           replace HS : Hp A37 wt15 _ [.box g2 [.slice none 0 0, .int .i64 0, .int .i64 0, .int .i64 0, .int .i64 0, .bool false] 67, .box g20 [.bool t209001.2.f0] 133, .own (Zd.slice 9 Zd.string) t204001.1 [.slice B204002 t204001.1.length d204002], .box g8 [.slice none 0 0, .int .i64 0, .int .i64 0, .int .i64 0, .int .i64 0, .bool false] 67] := HS
           have F := HS.boxes; simp only [boxFacts, and_true] at F
           refine hK.out _ _ ⟨[], HS.arr [some 0, none] (by decide)⟩ (fun HH => ?_)
           clear hK K
           refine norm_ (a' := ?_) ?_ ?_
           rotate_left
           · show Act.put _ (some 33) _ = _; simp only [Act.put, List.setIfInBounds_toArray, List.set_cons_zero, List.set_cons_succ, i64_w, i32_w, c12, c18]; rfl
           refine dr_one 14 HT rfl (by kernel_rfl) (by decide) (fun K hK => ?_)
           refine HS.lend [1] (by decide) [.box g20 [.bool t209001.2.f0] 133] rfl (fun A' HL HD HA HB => ?_); refine goes_ Try.func93 (by kernel_rfl) rfl #[.pointer (some ⟨g20, 0, none⟩), .agg #[.int .i64 0, .string (⟨#[]⟩ : ByteArray), .slice B212999_2 0 d212999_2]] (by rfl) rfl rfl (by simp only [List.map_toArray, List.map_cons, List.map_nil]; rfl) ?_; refine (impl_opener_num_0.calls ht214001.out (C_zero _) (Nat.zero_le _) (hV.lend HS HL) HA).mono ?_; rintro _ wt214001 ⟨rfl, HQ⟩; refine ⟨_, rfl, ?_⟩; replace HS : Hp A37 wt15 _ [.box g2 [.slice none 0 0, .int .i64 0, .int .i64 0, .int .i64 0, .int .i64 0, .bool false] 67, .box g20 [.bool t214001.2.f0] 133, .own (Zd.slice 9 Zd.string) t204001.1 [.slice B204002 t204001.1.length d204002], .box g8 [.slice none 0 0, .int .i64 0, .int .i64 0, .int .i64 0, .int .i64 0, .bool false] 67] := HB _ _ HQ (Nat.le_of_ble_eq_true rfl); clear HQ HA HB HL HD; (try clear F)
           replace HS : Hp A37 wt15 _ [.box g2 [.slice none 0 0, .int .i64 0, .int .i64 0, .int .i64 0, .int .i64 0, .bool false] 67, .box g20 [.bool t214001.2.f0] 133, .own (Zd.slice 9 Zd.string) t204001.1 [.slice B204002 t204001.1.length d204002], .box g8 [.slice none 0 0, .int .i64 0, .int .i64 0, .int .i64 0, .int .i64 0, .bool false] 67] := HS
           have F := HS.boxes; simp only [boxFacts, and_true] at F
           refine hK.out _ _ ⟨[], HS.arr [some 0, none] (by decide)⟩ (fun HH => ?_)
           clear hK K
           refine norm_ (a' := ?_) ?_ ?_
           rotate_left
           · show Act.put _ (some 38) _ = _; simp only [Act.put, List.setIfInBounds_toArray, List.set_cons_zero, List.set_cons_succ, i64_w, i32_w, c12, c18]; rfl
           refine dr_one 19 HT rfl (by kernel_rfl) (by decide) (fun K hK => ?_)
           refine HS.lend [1] (by decide) [.box g20 [.bool t214001.2.f0] 133] rfl (fun A' HL HD HA HB => ?_); refine goes_ Try.func93 (by kernel_rfl) rfl #[.pointer (some ⟨g20, 0, none⟩), .agg #[.int .i64 0, .string (⟨#[]⟩ : ByteArray), .slice B217999_2 0 d217999_2]] (by rfl) rfl rfl (by simp only [List.map_toArray, List.map_cons, List.map_nil]; rfl) ?_; refine (impl_opener_num_0.calls ht219001.out (C_zero _) (Nat.zero_le _) (hV.lend HS HL) HA).mono ?_; rintro _ wt219001 ⟨rfl, HQ⟩; refine ⟨_, rfl, ?_⟩; replace HS : Hp A37 wt15 _ [.box g2 [.slice none 0 0, .int .i64 0, .int .i64 0, .int .i64 0, .int .i64 0, .bool false] 67, .box g20 [.bool t219001.2.f0] 133, .own (Zd.slice 9 Zd.string) t204001.1 [.slice B204002 t204001.1.length d204002], .box g8 [.slice none 0 0, .int .i64 0, .int .i64 0, .int .i64 0, .int .i64 0, .bool false] 67] := HB _ _ HQ (Nat.le_of_ble_eq_true rfl); clear HQ HA HB HL HD; (try clear F)
           replace HS : Hp A37 wt15 _ [.box g2 [.slice none 0 0, .int .i64 0, .int .i64 0, .int .i64 0, .int .i64 0, .bool false] 67, .box g20 [.bool t219001.2.f0] 133, .own (Zd.slice 9 Zd.string) t204001.1 [.slice B204002 t204001.1.length d204002], .box g8 [.slice none 0 0, .int .i64 0, .int .i64 0, .int .i64 0, .int .i64 0, .bool false] 67] := HS
           have F := HS.boxes; simp only [boxFacts, and_true] at F
           refine hK.out _ _ ⟨[], HS.arr [some 0, none] (by decide)⟩ (fun HH => ?_)
           clear hK K
           refine norm_ (a' := ?_) ?_ ?_
           rotate_left
           · show Act.put _ (some 43) _ = _; simp only [Act.put, List.setIfInBounds_toArray, List.set_cons_zero, List.set_cons_succ, i64_w, i32_w, c12, c18]; rfl
           refine dr_one 24 HT rfl (by kernel_rfl) (by decide) (fun K hK => ?_)
           refine HS.lend [1] (by decide) [.box g20 [.bool t219001.2.f0] 133] rfl (fun A' HL HD HA HB => ?_); refine goes_ Try.func93 (by kernel_rfl) rfl #[.pointer (some ⟨g20, 0, none⟩), .agg #[.int .i64 0, .string (⟨#[]⟩ : ByteArray), .slice B222999_2 0 d222999_2]] (by rfl) rfl rfl (by simp only [List.map_toArray, List.map_cons, List.map_nil]; rfl) ?_; refine (impl_opener_num_0.calls ht224001.out (C_zero _) (Nat.zero_le _) (hV.lend HS HL) HA).mono ?_; rintro _ wt224001 ⟨rfl, HQ⟩; refine ⟨_, rfl, ?_⟩; replace HS : Hp A37 wt15 _ [.box g2 [.slice none 0 0, .int .i64 0, .int .i64 0, .int .i64 0, .int .i64 0, .bool false] 67, .box g20 [.bool t224001.2.f0] 133, .own (Zd.slice 9 Zd.string) t204001.1 [.slice B204002 t204001.1.length d204002], .box g8 [.slice none 0 0, .int .i64 0, .int .i64 0, .int .i64 0, .int .i64 0, .bool false] 67] := HB _ _ HQ (Nat.le_of_ble_eq_true rfl); clear HQ HA HB HL HD; (try clear F)
           replace HS : Hp A37 wt15 _ [.box g2 [.slice none 0 0, .int .i64 0, .int .i64 0, .int .i64 0, .int .i64 0, .bool false] 67, .box g20 [.bool t224001.2.f0] 133, .own (Zd.slice 9 Zd.string) t204001.1 [.slice B204002 t204001.1.length d204002], .box g8 [.slice none 0 0, .int .i64 0, .int .i64 0, .int .i64 0, .int .i64 0, .bool false] 67] := HS
           have F := HS.boxes; simp only [boxFacts, and_true] at F
           refine hK.out _ _ ⟨[], HS.arr [some 0, none] (by decide)⟩ (fun HH => ?_)
           clear hK K
           refine norm_ (a' := ?_) ?_ ?_
           rotate_left
           · show Act.put _ (some 48) _ = _; simp only [Act.put, List.setIfInBounds_toArray, List.set_cons_zero, List.set_cons_succ, i64_w, i32_w, c12, c18]; rfl
           refine dr_one 29 HT rfl (by kernel_rfl) (by decide) (fun K hK => ?_)
           refine HS.lend [1] (by decide) [.box g20 [.bool t224001.2.f0] 133] rfl (fun A' HL HD HA HB => ?_); refine goes_ Try.func94 (by kernel_rfl) rfl #[.pointer (some ⟨g20, 0, none⟩), .agg #[.int .i64 0, .string (⟨#[]⟩ : ByteArray), .slice B227999_2 0 d227999_2]] (by rfl) rfl rfl (by simp only [List.map_toArray, List.map_cons, List.map_nil]; rfl) ?_; refine (impl_opener_flag_0.calls ht229001.out (C_zero _) (Nat.zero_le _) (hV.lend HS HL) HA).mono ?_; rintro _ wt229001 ⟨rfl, HQ⟩; refine ⟨_, rfl, ?_⟩; replace HS : Hp A37 wt15 _ [.box g2 [.slice none 0 0, .int .i64 0, .int .i64 0, .int .i64 0, .int .i64 0, .bool false] 67, .box g20 [.bool t229001.2.f0] 133, .own (Zd.slice 9 Zd.string) t204001.1 [.slice B204002 t204001.1.length d204002], .box g8 [.slice none 0 0, .int .i64 0, .int .i64 0, .int .i64 0, .int .i64 0, .bool false] 67] := HB _ _ HQ (Nat.le_of_ble_eq_true rfl); clear HQ HA HB HL HD; (try clear F)
           replace HS : Hp A37 wt15 _ [.box g2 [.slice none 0 0, .int .i64 0, .int .i64 0, .int .i64 0, .int .i64 0, .bool false] 67, .box g20 [.bool t229001.2.f0] 133, .own (Zd.slice 9 Zd.string) t204001.1 [.slice B204002 t204001.1.length d204002], .box g8 [.slice none 0 0, .int .i64 0, .int .i64 0, .int .i64 0, .int .i64 0, .bool false] 67] := HS
           have F := HS.boxes; simp only [boxFacts, and_true] at F
           refine hK.out _ _ ⟨[], HS.arr [some 0, none] (by decide)⟩ (fun HH => ?_)
           clear hK K
           refine norm_ (a' := ?_) ?_ ?_
           rotate_left
           · show Act.put _ (some 53) _ = _; simp only [Act.put, List.setIfInBounds_toArray, List.set_cons_zero, List.set_cons_succ, i64_w, i32_w, c12, c18]; rfl
           refine drq_of [(30, some 54)] ?_
           repeat (first | (refine drq_pure HT (v := ?_) (a' := ?_) rfl rfl (by kernel_rfl) (fun _ _ _ h => h) (.inl ⟨by rfl, ?_⟩) ?_ ?_; rotate_left; (intro w'; go_simp; with_reducible rfl); rotate_left; (simp only [Act.put, List.setIfInBounds_toArray, List.set_cons_zero, List.set_cons_succ, i64_w, i32_w]; rfl)))
           refine drq_end ?_
           refine dr_last 32 HT rfl (by kernel_rfl) (by decide) (fun K hK => ?_)
           refine if_wp (by rfl) ?_; refine wp_store 3 0 HS (seg := [.slice B204002 t204001.1.length d204002, .int .i64 t209001.1, .int .i64 t214001.1, .int .i64 t219001.1, .int .i64 t224001.1, .bool t229001.1]) rfl rfl rfl rfl rfl rfl (by kernel_rfl) (by simp [wrt]) (by simp [Value.oneCell']) ?_; clear HS; (try clear F); intro w232001 HS
           replace HS : Hp A37 wt15 _ [.box g2 [.slice none 0 0, .int .i64 0, .int .i64 0, .int .i64 0, .int .i64 0, .bool false] 67, .box g20 [.bool t229001.2.f0] 133, .own (Zd.slice 9 Zd.string) t204001.1 [.slice B204002 t204001.1.length d204002], .box g8 [.slice B204002 t204001.1.length d204002, .int .i64 t209001.1, .int .i64 t214001.1, .int .i64 t219001.1, .int .i64 t224001.1, .bool t229001.1] 67] := HS
           have F := HS.boxes; simp only [boxFacts, and_true] at F
           refine hK.out _ _ ?_
           clear hK K
           refine norm_ ?_ (hJ (.slice B204002 t204001.1.length d204002, g8, .pointer (some ad202999), .agg #[.int .i64 0, .string (⟨#[]⟩ : ByteArray), .slice B202999_2 0 d202999_2], .pointer (some (ad202999.add 3)), .agg #[.int .i64 0, .string (⟨#[]⟩ : ByteArray), .slice B207999_2 0 d207999_2], .pointer (some (ad202999.add 6)), .agg #[.int .i64 0, .string (⟨#[]⟩ : ByteArray), .slice B212999_2 0 d212999_2], .pointer (some (ad202999.add 9)), .agg #[.int .i64 0, .string (⟨#[]⟩ : ByteArray), .slice B217999_2 0 d217999_2], .pointer (some (ad202999.add 12)), .agg #[.int .i64 0, .string (⟨#[]⟩ : ByteArray), .slice B222999_2 0 d222999_2], .pointer (some (ad202999.add 15)), .agg #[.int .i64 0, .string (⟨#[]⟩ : ByteArray), .slice B227999_2 0 d227999_2]) _ (HS.arr [some 0, some 1, some 2, some 3] (by decide)))
           simp only [putAll, Act.put, List.setIfInBounds_toArray, List.set_cons_zero, List.set_cons_succ, i64_w, i32_w, c12, c18]
           (try rfl)
       · refine if_wp (by rfl) ?_; refine wp_box HS (by first | (go_simp; done) | (go_simp; rfl)) rfl ?_; clear HS; (try clear F); intro g8 w8 HS
         replace HS : Hp A37 wt15 _ [.box g2 [.slice none 0 0, .int .i64 0, .int .i64 0, .int .i64 0, .int .i64 0, .bool false] 67, .box g20 [.bool t15.2.f0] 133, .box g8 [.slice none 0 0, .int .i64 0, .int .i64 0, .int .i64 0, .int .i64 0, .bool false] 67] := HS
         have F := HS.boxes; simp only [boxFacts, and_true] at F
         refine hK.out _ _ ⟨[], HS.arr [some 0, none] (by decide)⟩ (fun HH => ?_)
         clear hK K
         refine norm_ (a' := ?_) ?_ ?_
         rotate_left
         · show Act.put _ (some 8) _ = _; simp only [Act.put, List.setIfInBounds_toArray, List.set_cons_zero, List.set_cons_succ, i64_w, i32_w, c12, c18]; rfl
         refine dr_one 4 HT rfl (by kernel_rfl) (by decide) (fun K hK => ?_)
         refine HS.lend [1] (by decide) [.box g20 [.bool t15.2.f0] 133] rfl (fun A' HL HD HA HB => ?_); refine goes_ Try.func92 (by kernel_rfl) rfl #[.pointer (some ⟨g20, 0, none⟩), .agg #[.int .i64 0, .string (⟨#[]⟩ : ByteArray), .slice B202999_2 0 d202999_2], .int .i64 4] (by rfl) rfl rfl (by simp only [List.map_toArray, List.map_cons, List.map_nil]; rfl) ?_; refine (impl_opener_texts_0.calls ht204001.out (C_zero _) (Nat.zero_le _) (hV.lend HS HL) HA).mono ?_; rintro _ wt204001 ⟨v204002, rfl, HQ⟩; refine ⟨_, rfl, ?_⟩; replace HS : Hp A37 wt15 _ [.box g2 [.slice none 0 0, .int .i64 0, .int .i64 0, .int .i64 0, .int .i64 0, .bool false] 67, .box g20 [.bool t204001.2.f0] 133, .box g8 [.slice none 0 0, .int .i64 0, .int .i64 0, .int .i64 0, .int .i64 0, .bool false] 67, .own (Zd.slice 9 Zd.string) t204001.1 [v204002]] := HB _ _ HQ (Nat.le_of_ble_eq_true rfl); clear HQ HA HB HL HD; (try clear F); obtain ⟨B204002, d204002, rfl, m204002⟩ := HS.form 3 rfl
         replace HS : Hp A37 wt15 _ [.box g2 [.slice none 0 0, .int .i64 0, .int .i64 0, .int .i64 0, .int .i64 0, .bool false] 67, .box g20 [.bool t204001.2.f0] 133, .box g8 [.slice none 0 0, .int .i64 0, .int .i64 0, .int .i64 0, .int .i64 0, .bool false] 67, .own (Zd.slice 9 Zd.string) t204001.1 [.slice B204002 t204001.1.length d204002]] := HS
         have F := HS.boxes; simp only [boxFacts, and_true] at F
         refine hK.out _ _ ⟨[], HS.arr [some 0, none] (by decide)⟩ (fun HH => ?_)
         clear hK K
         refine norm_ (a' := ?_) ?_ ?_
         rotate_left
         · show Act.put _ (some 28) _ = _; simp only [Act.put, List.setIfInBounds_toArray, List.set_cons_zero, List.set_cons_succ, i64_w, i32_w, c12, c18]; rfl
         refine dr_one 9 HT rfl (by kernel_rfl) (by decide) (fun K hK => ?_)
         refine HS.lend [1] (by decide) [.box g20 [.bool t204001.2.f0] 133] rfl (fun A' HL HD HA HB => ?_); refine goes_ Try.func93 (by kernel_rfl) rfl #[.pointer (some ⟨g20, 0, none⟩), .agg #[.int .i64 0, .string (⟨#[]⟩ : ByteArray), .slice B207999_2 0 d207999_2]] (by rfl) rfl rfl (by simp only [List.map_toArray, List.map_cons, List.map_nil]; rfl) ?_; refine (impl_opener_num_0.calls ht209001.out (C_zero _) (Nat.zero_le _) (hV.lend HS HL) HA).mono ?_; rintro _ wt209001 ⟨rfl, HQ⟩; refine ⟨_, rfl, ?_⟩; replace HS : Hp A37 wt15 _ [.box g2 [.slice none 0 0, .int .i64 0, .int .i64 0, .int .i64 0, .int .i64 0, .bool false] 67, .box g20 [.bool t209001.2.f0] 133, .box g8 [.slice none 0 0, .int .i64 0, .int .i64 0, .int .i64 0, .int .i64 0, .bool false] 67, .own (Zd.slice 9 Zd.string) t204001.1 [.slice B204002 t204001.1.length d204002]] := HB _ _ HQ (Nat.le_of_ble_eq_true rfl); clear HQ HA HB HL HD; (try clear F)
         replace HS : Hp A37 wt15 _ [.box g2 [.slice none 0 0, .int .i64 0, .int .i64 0, .int .i64 0, .int .i64 0, .bool false] 67, .box g20 [.bool t209001.2.f0] 133, .box g8 [.slice none 0 0, .int .i64 0, .int .i64 0, .int .i64 0, .int .i64 0, .bool false] 67, .own (Zd.slice 9 Zd.string) t204001.1 [.slice B204002 t204001.1.length d204002]] := HS
         have F := HS.boxes; simp only [boxFacts, and_true] at F
         refine hK.out _ _ ⟨[], HS.arr [some 0, none] (by decide)⟩ (fun HH => ?_)
         clear hK K
         refine norm_ (a' := ?_) ?_ ?_
         rotate_left
         · show Act.put _ (some 33) _ = _; simp only [Act.put, List.setIfInBounds_toArray, List.set_cons_zero, List.set_cons_succ, i64_w, i32_w, c12, c18]; rfl
         refine dr_one 14 HT rfl (by kernel_rfl) (by decide) (fun K hK => ?_)
         refine HS.lend [1] (by decide) [.box g20 [.bool t209001.2.f0] 133] rfl (fun A' HL HD HA HB => ?_); refine goes_ Try.func93 (by kernel_rfl) rfl #[.pointer (some ⟨g20, 0, none⟩), .agg #[.int .i64 0, .string (⟨#[]⟩ : ByteArray), .slice B212999_2 0 d212999_2]] (by rfl) rfl rfl (by simp only [List.map_toArray, List.map_cons, List.map_nil]; rfl) ?_; refine (impl_opener_num_0.calls ht214001.out (C_zero _) (Nat.zero_le _) (hV.lend HS HL) HA).mono ?_; rintro _ wt214001 ⟨rfl, HQ⟩; refine ⟨_, rfl, ?_⟩; replace HS : Hp A37 wt15 _ [.box g2 [.slice none 0 0, .int .i64 0, .int .i64 0, .int .i64 0, .int .i64 0, .bool false] 67, .box g20 [.bool t214001.2.f0] 133, .box g8 [.slice none 0 0, .int .i64 0, .int .i64 0, .int .i64 0, .int .i64 0, .bool false] 67, .own (Zd.slice 9 Zd.string) t204001.1 [.slice B204002 t204001.1.length d204002]] := HB _ _ HQ (Nat.le_of_ble_eq_true rfl); clear HQ HA HB HL HD; (try clear F)
         replace HS : Hp A37 wt15 _ [.box g2 [.slice none 0 0, .int .i64 0, .int .i64 0, .int .i64 0, .int .i64 0, .bool false] 67, .box g20 [.bool t214001.2.f0] 133, .box g8 [.slice none 0 0, .int .i64 0, .int .i64 0, .int .i64 0, .int .i64 0, .bool false] 67, .own (Zd.slice 9 Zd.string) t204001.1 [.slice B204002 t204001.1.length d204002]] := HS
         have F := HS.boxes; simp only [boxFacts, and_true] at F
         refine hK.out _ _ ⟨[], HS.arr [some 0, none] (by decide)⟩ (fun HH => ?_)
         clear hK K
         refine norm_ (a' := ?_) ?_ ?_
         rotate_left
         · show Act.put _ (some 38) _ = _; simp only [Act.put, List.setIfInBounds_toArray, List.set_cons_zero, List.set_cons_succ, i64_w, i32_w, c12, c18]; rfl
         refine dr_one 19 HT rfl (by kernel_rfl) (by decide) (fun K hK => ?_)
         refine HS.lend [1] (by decide) [.box g20 [.bool t214001.2.f0] 133] rfl (fun A' HL HD HA HB => ?_); refine goes_ Try.func93 (by kernel_rfl) rfl #[.pointer (some ⟨g20, 0, none⟩), .agg #[.int .i64 0, .string (⟨#[]⟩ : ByteArray), .slice B217999_2 0 d217999_2]] (by rfl) rfl rfl (by simp only [List.map_toArray, List.map_cons, List.map_nil]; rfl) ?_; refine (impl_opener_num_0.calls ht219001.out (C_zero _) (Nat.zero_le _) (hV.lend HS HL) HA).mono ?_; rintro _ wt219001 ⟨rfl, HQ⟩; refine ⟨_, rfl, ?_⟩; replace HS : Hp A37 wt15 _ [.box g2 [.slice none 0 0, .int .i64 0, .int .i64 0, .int .i64 0, .int .i64 0, .bool false] 67, .box g20 [.bool t219001.2.f0] 133, .box g8 [.slice none 0 0, .int .i64 0, .int .i64 0, .int .i64 0, .int .i64 0, .bool false] 67, .own (Zd.slice 9 Zd.string) t204001.1 [.slice B204002 t204001.1.length d204002]] := HB _ _ HQ (Nat.le_of_ble_eq_true rfl); clear HQ HA HB HL HD; (try clear F)
         replace HS : Hp A37 wt15 _ [.box g2 [.slice none 0 0, .int .i64 0, .int .i64 0, .int .i64 0, .int .i64 0, .bool false] 67, .box g20 [.bool t219001.2.f0] 133, .box g8 [.slice none 0 0, .int .i64 0, .int .i64 0, .int .i64 0, .int .i64 0, .bool false] 67, .own (Zd.slice 9 Zd.string) t204001.1 [.slice B204002 t204001.1.length d204002]] := HS
         have F := HS.boxes; simp only [boxFacts, and_true] at F
         refine hK.out _ _ ⟨[], HS.arr [some 0, none] (by decide)⟩ (fun HH => ?_)
         clear hK K
         refine norm_ (a' := ?_) ?_ ?_
         rotate_left
         · show Act.put _ (some 43) _ = _; simp only [Act.put, List.setIfInBounds_toArray, List.set_cons_zero, List.set_cons_succ, i64_w, i32_w, c12, c18]; rfl
         refine dr_one 24 HT rfl (by kernel_rfl) (by decide) (fun K hK => ?_)
         refine HS.lend [1] (by decide) [.box g20 [.bool t219001.2.f0] 133] rfl (fun A' HL HD HA HB => ?_); refine goes_ Try.func93 (by kernel_rfl) rfl #[.pointer (some ⟨g20, 0, none⟩), .agg #[.int .i64 0, .string (⟨#[]⟩ : ByteArray), .slice B222999_2 0 d222999_2]] (by rfl) rfl rfl (by simp only [List.map_toArray, List.map_cons, List.map_nil]; rfl) ?_; refine (impl_opener_num_0.calls ht224001.out (C_zero _) (Nat.zero_le _) (hV.lend HS HL) HA).mono ?_; rintro _ wt224001 ⟨rfl, HQ⟩; refine ⟨_, rfl, ?_⟩; replace HS : Hp A37 wt15 _ [.box g2 [.slice none 0 0, .int .i64 0, .int .i64 0, .int .i64 0, .int .i64 0, .bool false] 67, .box g20 [.bool t224001.2.f0] 133, .box g8 [.slice none 0 0, .int .i64 0, .int .i64 0, .int .i64 0, .int .i64 0, .bool false] 67, .own (Zd.slice 9 Zd.string) t204001.1 [.slice B204002 t204001.1.length d204002]] := HB _ _ HQ (Nat.le_of_ble_eq_true rfl); clear HQ HA HB HL HD; (try clear F)
         replace HS : Hp A37 wt15 _ [.box g2 [.slice none 0 0, .int .i64 0, .int .i64 0, .int .i64 0, .int .i64 0, .bool false] 67, .box g20 [.bool t224001.2.f0] 133, .box g8 [.slice none 0 0, .int .i64 0, .int .i64 0, .int .i64 0, .int .i64 0, .bool false] 67, .own (Zd.slice 9 Zd.string) t204001.1 [.slice B204002 t204001.1.length d204002]] := HS
         have F := HS.boxes; simp only [boxFacts, and_true] at F
         refine hK.out _ _ ⟨[], HS.arr [some 0, none] (by decide)⟩ (fun HH => ?_)
         clear hK K
         refine norm_ (a' := ?_) ?_ ?_
         rotate_left
         · show Act.put _ (some 48) _ = _; simp only [Act.put, List.setIfInBounds_toArray, List.set_cons_zero, List.set_cons_succ, i64_w, i32_w, c12, c18]; rfl
         refine dr_one 29 HT rfl (by kernel_rfl) (by decide) (fun K hK => ?_)
         refine HS.lend [1] (by decide) [.box g20 [.bool t224001.2.f0] 133] rfl (fun A' HL HD HA HB => ?_); refine goes_ Try.func94 (by kernel_rfl) rfl #[.pointer (some ⟨g20, 0, none⟩), .agg #[.int .i64 0, .string (⟨#[]⟩ : ByteArray), .slice B227999_2 0 d227999_2]] (by rfl) rfl rfl (by simp only [List.map_toArray, List.map_cons, List.map_nil]; rfl) ?_; refine (impl_opener_flag_0.calls ht229001.out (C_zero _) (Nat.zero_le _) (hV.lend HS HL) HA).mono ?_; rintro _ wt229001 ⟨rfl, HQ⟩; refine ⟨_, rfl, ?_⟩; replace HS : Hp A37 wt15 _ [.box g2 [.slice none 0 0, .int .i64 0, .int .i64 0, .int .i64 0, .int .i64 0, .bool false] 67, .box g20 [.bool t229001.2.f0] 133, .box g8 [.slice none 0 0, .int .i64 0, .int .i64 0, .int .i64 0, .int .i64 0, .bool false] 67, .own (Zd.slice 9 Zd.string) t204001.1 [.slice B204002 t204001.1.length d204002]] := HB _ _ HQ (Nat.le_of_ble_eq_true rfl); clear HQ HA HB HL HD; (try clear F)
         replace HS : Hp A37 wt15 _ [.box g2 [.slice none 0 0, .int .i64 0, .int .i64 0, .int .i64 0, .int .i64 0, .bool false] 67, .box g20 [.bool t229001.2.f0] 133, .box g8 [.slice none 0 0, .int .i64 0, .int .i64 0, .int .i64 0, .int .i64 0, .bool false] 67, .own (Zd.slice 9 Zd.string) t204001.1 [.slice B204002 t204001.1.length d204002]] := HS
         have F := HS.boxes; simp only [boxFacts, and_true] at F
         refine hK.out _ _ ⟨[], HS.arr [some 0, none] (by decide)⟩ (fun HH => ?_)
         clear hK K
         refine norm_ (a' := ?_) ?_ ?_
         rotate_left
         · show Act.put _ (some 53) _ = _; simp only [Act.put, List.setIfInBounds_toArray, List.set_cons_zero, List.set_cons_succ, i64_w, i32_w, c12, c18]; rfl
         refine drq_of [(30, some 54)] ?_
         repeat (first | (refine drq_pure HT (v := ?_) (a' := ?_) rfl rfl (by kernel_rfl) (fun _ _ _ h => h) (.inl ⟨by rfl, ?_⟩) ?_ ?_; rotate_left; (intro w'; go_simp; with_reducible rfl); rotate_left; (simp only [Act.put, List.setIfInBounds_toArray, List.set_cons_zero, List.set_cons_succ, i64_w, i32_w]; rfl)))
         refine drq_end ?_
         refine dr_last 32 HT rfl (by kernel_rfl) (by decide) (fun K hK => ?_)
         refine if_wp (by rfl) ?_; refine wp_store 2 0 HS (seg := [.slice B204002 t204001.1.length d204002, .int .i64 t209001.1, .int .i64 t214001.1, .int .i64 t219001.1, .int .i64 t224001.1, .bool t229001.1]) rfl rfl rfl rfl rfl rfl (by kernel_rfl) (by simp [wrt]) (by simp [Value.oneCell']) ?_; clear HS; (try clear F); intro w232001 HS
         replace HS : Hp A37 wt15 _ [.box g2 [.slice none 0 0, .int .i64 0, .int .i64 0, .int .i64 0, .int .i64 0, .bool false] 67, .box g20 [.bool t229001.2.f0] 133, .box g8 [.slice B204002 t204001.1.length d204002, .int .i64 t209001.1, .int .i64 t214001.1, .int .i64 t219001.1, .int .i64 t224001.1, .bool t229001.1] 67, .own (Zd.slice 9 Zd.string) t204001.1 [.slice B204002 t204001.1.length d204002]] := HS
         have F := HS.boxes; simp only [boxFacts, and_true] at F
         refine hK.out _ _ ?_
         clear hK K
         refine norm_ ?_ (hJ (.slice B204002 t204001.1.length d204002, g8, .pointer (some ad202999), .agg #[.int .i64 0, .string (⟨#[]⟩ : ByteArray), .slice B202999_2 0 d202999_2], .pointer (some (ad202999.add 3)), .agg #[.int .i64 0, .string (⟨#[]⟩ : ByteArray), .slice B207999_2 0 d207999_2], .pointer (some (ad202999.add 6)), .agg #[.int .i64 0, .string (⟨#[]⟩ : ByteArray), .slice B212999_2 0 d212999_2], .pointer (some (ad202999.add 9)), .agg #[.int .i64 0, .string (⟨#[]⟩ : ByteArray), .slice B217999_2 0 d217999_2], .pointer (some (ad202999.add 12)), .agg #[.int .i64 0, .string (⟨#[]⟩ : ByteArray), .slice B222999_2 0 d222999_2], .pointer (some (ad202999.add 15)), .agg #[.int .i64 0, .string (⟨#[]⟩ : ByteArray), .slice B227999_2 0 d227999_2]) _ (HS.arr [some 0, some 1, some 3, some 2] (by decide)))
         simp only [putAll, Act.put, List.setIfInBounds_toArray, List.set_cons_zero, List.set_cons_succ, i64_w, i32_w, c12, c18]
         (try rfl)
     rintro ⟨v204002, g8, pe26, pe27, pe31, pe32, pe36, pe37, pe41, pe42, pe46, pe47, pe51, pe52⟩ w299999 HS
     obtain ⟨B204002, d204002, rfl, m204002⟩ := HS.form 2 rfl
     have F := HS.boxes; simp only [boxFacts, and_true] at F
     refine norm_ (a' := ?_) ?_ ?_
     rotate_left
     · simp only [putAll, Act.put, List.setIfInBounds_toArray, List.set_cons_zero, List.set_cons_succ, i64_w, i32_w, c12, c18]; rfl
     refine done_ (done_of HT.out (by kernel_rfl)) ?_
     replace H := zbind H; obtain ⟨t42, ht42, H⟩ := H
     by_cases c44 : t229001.2.f0 = true
     · replace H := zpos c44 H
       obtain ⟨rfl, rfl⟩ := zsome2 H
       go_wp2_with (first | ((with_reducible refine gate_dst (N := 57) rfl ?_); refine ev_call rfl Try.func95 (by kernel_rfl) rfl #[.agg #[.slice B204002 t204001.1.length d204002, .int .i64 t209001.1, .int .i64 t214001.1, .int .i64 t219001.1, .int .i64 t224001.1, .bool t229001.1]] rfl (by simp only [List.map_toArray, List.map_cons, List.map_nil]; rfl) ?_; refine (impl_AskText.calls ht42.out (HS.rd 2 rfl) m204002).mono ?_; rintro _ wt42 ⟨rfl, HQ⟩; refine ⟨_, rfl, ?_⟩; replace HS := HS.call HQ; clear HQ; (try clear F); replace HS : Hp A37 wt15 _ [.box g2 [.slice none 0 0, .int .i64 0, .int .i64 0, .int .i64 0, .int .i64 0, .bool false] 67, .box g20 [.bool t229001.2.f0] 133, .own (Zd.slice 9 Zd.string) t204001.1 [.slice B204002 t204001.1.length d204002], .box g8 [.slice B204002 t204001.1.length d204002, .int .i64 t209001.1, .int .i64 t214001.1, .int .i64 t219001.1, .int .i64 t224001.1, .bool t229001.1] 67] := HS; have F := HS.boxes; simp only [boxFacts, and_true] at F; (try simp only [c44])) | ((with_reducible refine gate_store (p := 2) rfl ?_); refine ev_store rfl 0 0 HS (seg := [.slice none 0 0, .int .i64 0, .int .i64 0, .int .i64 0, .int .i64 0, .bool false]) rfl rfl rfl rfl rfl rfl (by kernel_rfl) (by simp [wrt]) (by simp [Value.oneCell']) ?_; clear HS; (try clear F); intro w45 HS; replace HS : Hp A37 wt15 _ [.box g2 [.slice none 0 0, .int .i64 0, .int .i64 0, .int .i64 0, .int .i64 0, .bool false] 67, .box g20 [.bool t229001.2.f0] 133, .own (Zd.slice 9 Zd.string) t204001.1 [.slice B204002 t204001.1.length d204002], .box g8 [.slice B204002 t204001.1.length d204002, .int .i64 t209001.1, .int .i64 t214001.1, .int .i64 t219001.1, .int .i64 t224001.1, .bool t229001.1] 67] := HS; have F := HS.boxes; simp only [boxFacts, and_true] at F))
       have HS := HB37 _ _ HS (Nat.le_of_ble_eq_true rfl)
       have HS := HB6 _ _ HS (Nat.le_of_ble_eq_true rfl)
       replace HS := HS.nil 9 Zd.string
       exact bodyPost_ret (results_list (rs := [.cell 2 67, .tmp 3]) rfl (by simp) (.cell _ _ _ _ _ rfl (HS.boxAt (i := 0) rfl) Try.underlying67 rfl (by kernel_rfl) (.tmp .nil))) rfl ⟨_, rfl, HS.pick [7] (by decide) (by rfl)⟩
     · replace H := zneg c44 H
       replace c44 := eq_false_of_ne_true c44
       by_cases c47 : t42.2 = true
       · replace H := zpos c47 H
         go_upto_if 72 with (first | ((with_reducible refine gate_dst (N := 57) rfl ?_); refine ev_call rfl Try.func95 (by kernel_rfl) rfl #[.agg #[.slice B204002 t204001.1.length d204002, .int .i64 t209001.1, .int .i64 t214001.1, .int .i64 t219001.1, .int .i64 t224001.1, .bool t229001.1]] rfl (by simp only [List.map_toArray, List.map_cons, List.map_nil]; rfl) ?_; refine (impl_AskText.calls ht42.out (HS.rd 2 rfl) m204002).mono ?_; rintro _ wt42 ⟨rfl, HQ⟩; refine ⟨_, rfl, ?_⟩; replace HS := HS.call HQ; clear HQ; (try clear F); replace HS : Hp A37 wt15 _ [.box g2 [.slice none 0 0, .int .i64 0, .int .i64 0, .int .i64 0, .int .i64 0, .bool false] 67, .box g20 [.bool t229001.2.f0] 133, .own (Zd.slice 9 Zd.string) t204001.1 [.slice B204002 t204001.1.length d204002], .box g8 [.slice B204002 t204001.1.length d204002, .int .i64 t209001.1, .int .i64 t214001.1, .int .i64 t219001.1, .int .i64 t224001.1, .bool t229001.1] 67] := HS; have F := HS.boxes; simp only [boxFacts, and_true] at F; (try simp only [c44]); (try simp only [c47])))
         by_cases c48 : t42.1.toList = a0.toList
         · replace H := zpos c48 H
           have c48a := beq_iff_eq.mpr c48
           have c48b := bne_eq_false_iff_eq.mpr c48
           clear c48
           (try simp only [c48a, c48b, decide_true, decide_false, Bool.not_true, Bool.not_false])
           obtain ⟨rfl, rfl⟩ := zsome2 H
           go_wp2_with (first | ((with_reducible refine gate_store (p := 2) rfl ?_); refine ev_store rfl 0 0 HS (seg := [.slice B204002 t204001.1.length d204002, .int .i64 t209001.1, .int .i64 t214001.1, .int .i64 t219001.1, .int .i64 t224001.1, .bool t229001.1]) rfl rfl rfl rfl rfl rfl (by kernel_rfl) (by simp [wrt]) (by simp [Value.oneCell']) ?_; clear HS; (try clear F); intro w49 HS; replace HS : Hp A37 wt15 _ [.box g2 [.slice B204002 t204001.1.length d204002, .int .i64 t209001.1, .int .i64 t214001.1, .int .i64 t219001.1, .int .i64 t224001.1, .bool t229001.1] 67, .box g20 [.bool t229001.2.f0] 133, .own (Zd.slice 9 Zd.string) t204001.1 [.slice B204002 t204001.1.length d204002], .box g8 [.slice B204002 t204001.1.length d204002, .int .i64 t209001.1, .int .i64 t214001.1, .int .i64 t219001.1, .int .i64 t224001.1, .bool t229001.1] 67] := HS; have F := HS.boxes; simp only [boxFacts, and_true] at F))
           have HS := HB37 _ _ HS (Nat.le_of_ble_eq_true rfl)
           have HS := HB6 _ _ HS (Nat.le_of_ble_eq_true rfl)
           exact bodyPost_ret (results_list (rs := [.cell 2 67, .tmp 3]) rfl (by simp) (.cell _ _ _ _ _ rfl (HS.boxAt (i := 0) rfl) Try.underlying67 rfl (by kernel_rfl) (.tmp .nil))) rfl ⟨_, rfl, HS.pick [5] (by decide) (by rfl)⟩
         · replace H := zneg c48 H
           have c48a := beq_eq_false_iff_ne.mpr c48
           have c48b := bne_iff_ne.mpr c48
           clear c48
           (try simp only [c48a, c48b, decide_true, decide_false, Bool.not_true, Bool.not_false])
           obtain ⟨rfl, rfl⟩ := zsome2 H
           go_wp2_with (first | ((with_reducible refine gate_store (p := 2) rfl ?_); refine ev_store rfl 0 0 HS (seg := [.slice none 0 0, .int .i64 0, .int .i64 0, .int .i64 0, .int .i64 0, .bool false]) rfl rfl rfl rfl rfl rfl (by kernel_rfl) (by simp [wrt]) (by simp [Value.oneCell']) ?_; clear HS; (try clear F); intro w51 HS; replace HS : Hp A37 wt15 _ [.box g2 [.slice none 0 0, .int .i64 0, .int .i64 0, .int .i64 0, .int .i64 0, .bool false] 67, .box g20 [.bool t229001.2.f0] 133, .own (Zd.slice 9 Zd.string) t204001.1 [.slice B204002 t204001.1.length d204002], .box g8 [.slice B204002 t204001.1.length d204002, .int .i64 t209001.1, .int .i64 t214001.1, .int .i64 t219001.1, .int .i64 t224001.1, .bool t229001.1] 67] := HS; have F := HS.boxes; simp only [boxFacts, and_true] at F))
           have HS := HB37 _ _ HS (Nat.le_of_ble_eq_true rfl)
           have HS := HB6 _ _ HS (Nat.le_of_ble_eq_true rfl)
           replace HS := HS.nil 9 Zd.string
           exact bodyPost_ret (results_list (rs := [.cell 2 67, .tmp 3]) rfl (by simp) (.cell _ _ _ _ _ rfl (HS.boxAt (i := 0) rfl) Try.underlying67 rfl (by kernel_rfl) (.tmp .nil))) rfl ⟨_, rfl, HS.pick [7] (by decide) (by rfl)⟩
       · replace H := zneg c47 H
         replace c47 := eq_false_of_ne_true c47
         obtain ⟨rfl, rfl⟩ := zsome2 H
         go_wp2_with (first | ((with_reducible refine gate_dst (N := 57) rfl ?_); refine ev_call rfl Try.func95 (by kernel_rfl) rfl #[.agg #[.slice B204002 t204001.1.length d204002, .int .i64 t209001.1, .int .i64 t214001.1, .int .i64 t219001.1, .int .i64 t224001.1, .bool t229001.1]] rfl (by simp only [List.map_toArray, List.map_cons, List.map_nil]; rfl) ?_; refine (impl_AskText.calls ht42.out (HS.rd 2 rfl) m204002).mono ?_; rintro _ wt42 ⟨rfl, HQ⟩; refine ⟨_, rfl, ?_⟩; replace HS := HS.call HQ; clear HQ; (try clear F); replace HS : Hp A37 wt15 _ [.box g2 [.slice none 0 0, .int .i64 0, .int .i64 0, .int .i64 0, .int .i64 0, .bool false] 67, .box g20 [.bool t229001.2.f0] 133, .own (Zd.slice 9 Zd.string) t204001.1 [.slice B204002 t204001.1.length d204002], .box g8 [.slice B204002 t204001.1.length d204002, .int .i64 t209001.1, .int .i64 t214001.1, .int .i64 t219001.1, .int .i64 t224001.1, .bool t229001.1] 67] := HS; have F := HS.boxes; simp only [boxFacts, and_true] at F; (try simp only [c44]); (try simp only [c47])) | ((with_reducible refine gate_store (p := 2) rfl ?_); refine ev_store rfl 0 0 HS (seg := [.slice none 0 0, .int .i64 0, .int .i64 0, .int .i64 0, .int .i64 0, .bool false]) rfl rfl rfl rfl rfl rfl (by kernel_rfl) (by simp [wrt]) (by simp [Value.oneCell']) ?_; clear HS; (try clear F); intro w53 HS; replace HS : Hp A37 wt15 _ [.box g2 [.slice none 0 0, .int .i64 0, .int .i64 0, .int .i64 0, .int .i64 0, .bool false] 67, .box g20 [.bool t229001.2.f0] 133, .own (Zd.slice 9 Zd.string) t204001.1 [.slice B204002 t204001.1.length d204002], .box g8 [.slice B204002 t204001.1.length d204002, .int .i64 t209001.1, .int .i64 t214001.1, .int .i64 t219001.1, .int .i64 t224001.1, .bool t229001.1] 67] := HS; have F := HS.boxes; simp only [boxFacts, and_true] at F))
         have HS := HB37 _ _ HS (Nat.le_of_ble_eq_true rfl)
         have HS := HB6 _ _ HS (Nat.le_of_ble_eq_true rfl)
         replace HS := HS.nil 9 Zd.string
         exact bodyPost_ret (results_list (rs := [.cell 2 67, .tmp 3]) rfl (by simp) (.cell _ _ _ _ _ rfl (HS.boxAt (i := 0) rfl) Try.underlying67 rfl (by kernel_rfl) (.tmp .nil))) rfl ⟨_, rfl, HS.pick [7] (by decide) (by rfl)⟩
 · replace H := zneg c12 H
   replace c12 := eq_false_of_ne_true c12
   (try simp only [c12, decide_true, decide_false, Bool.not_true, Bool.not_false])
   obtain ⟨rfl, rfl⟩ := zsome2 H
   go_wp2_with (first | ((with_reducible refine gate_store (p := 2) rfl ?_); refine ev_store rfl 0 0 HS (seg := [.slice none 0 0, .int .i64 0, .int .i64 0, .int .i64 0, .int .i64 0, .bool false]) rfl rfl rfl rfl rfl rfl (by kernel_rfl) (by simp [wrt]) (by simp [Value.oneCell']) ?_; clear HS; (try clear F); intro w55 HS; replace HS : Hp A6 wt3 _ [.box g2 [.slice none 0 0, .int .i64 0, .int .i64 0, .int .i64 0, .int .i64 0, .bool false] 67, .box g4 [.int .i64 t3.1.f0, .string t3.1.f1, .slice B4 t3.1.f2.length d4] 107] := HS; have F := HS.boxes; simp only [boxFacts, and_true] at F))
   have HS := HB6 _ _ HS (Nat.le_of_ble_eq_true rfl)
   replace HS := HS.nil 9 Zd.string
   exact bodyPost_ret (results_list (rs := [.cell 2 67, .tmp 3]) rfl (by simp) (.cell _ _ _ _ _ rfl (HS.boxAt (i := 0) rfl) Try.underlying67 rfl (by kernel_rfl) (.tmp .nil))) rfl ⟨_, rfl, HS.pick [3] (by decide) (by rfl)⟩
end Go.Proofs.Ytdcjcanobiohnaa.F
