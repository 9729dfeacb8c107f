/- Functions of the program and of the law, and that their calls do what is written here. -/
import Derived.Test.YtdcjcanobiohnaaZgFnExactReadAskb
namespace Go.Proofs.Ytdcjcanobiohnaa.F
open Go.RowKit Go.Proofs.YtdcjcanobiohnaaW.PrintWords Go.Proofs.YtdcjcanobiohnaaW.PrintLast Go.Proofs.YtdcjcanobiohnaaW.PrintMore Go.Proofs.Ytdcjcanobiohnaa.Z
attribute [local go_sem] max2_int min2_int max_two min_two max_three min_three max_four min_four
set_option linter.unusedVariables false
set_option linter.unusedSimpArgs false
set_option maxRecDepth 100000
/-! ### spec_ReadAsk: function 37 -/
def spec_ReadAsk.f (k : Nat) (a0 : ByteArray) : Option (S67 × Bool) := ((spec_ReadItem.f k a0).bind fun t3 => ((spec_l09Kids.f t3.1 6).bind fun t12 => (if t3.2 = true then (if t12.2 = true then (if 0 < (t3.1.f2.length : Int) then ((spec_l09TextsIn.f k (rd_T107 t3.1.f2 0)).bind fun t103001 => (if 5 < (t3.1.f2.length : Int) then (if 1 < (t3.1.f2.length : Int) then ((spec_IntIn.f k (rd_T107 t3.1.f2 1)).bind fun t21 => (if 2 < (t3.1.f2.length : Int) then ((spec_IntIn.f k (rd_T107 t3.1.f2 2)).bind fun t27 => (if 3 < (t3.1.f2.length : Int) then ((spec_IntIn.f k (rd_T107 t3.1.f2 3)).bind fun t33 => (if 4 < (t3.1.f2.length : Int) then ((spec_IntIn.f k (rd_T107 t3.1.f2 4)).bind fun t39 => ((spec_AskText.f k (⟨t103001, t21.1, t27.1, t33.1, t39.1, (((rd_T107 t3.1.f2 5).f1).toList == ([255] : List UInt8))⟩ : S67)).bind fun t43 => (if t43.2 = true then (if t43.1.toList = a0.toList then (some ((⟨t103001, t21.1, t27.1, t33.1, t39.1, (((rd_T107 t3.1.f2 5).f1).toList == ([255] : List UInt8))⟩ : S67), true)) else (some ((⟨([] : List ByteArray), 0, 0, 0, 0, false⟩ : S67), false))) else (some ((⟨([] : List ByteArray), 0, 0, 0, 0, false⟩ : S67), false))))) else none)) else none)) else none)) else none) else none)) else none) else (some ((⟨([] : List ByteArray), 0, 0, 0, 0, false⟩ : S67), false))) else (some ((⟨([] : List ByteArray), 0, 0, 0, 0, false⟩ : S67), false)))))
def spec_ReadAsk.T5 : Bool × List (List Nat × List Nat) := (true, [([], []), ([0], [0]), ([1], [1]), ([2], [2]), ([], []), ([4], [4]), ([5], [5]), ([6], [6]), ([7], [7]), ([3, 8], [3, 8]), ([], []), ([10, 9, 3, 0, 1, 2, 3, 4, 5, 6, 7, 8, 9, 10], [9, 10])])
theorem spec_ReadAsk.tT5 : rtab .any (opsOf Try.f37 5) = spec_ReadAsk.T5 := by kernel_rfl
set_option maxHeartbeats 16000000 in
theorem spec_ReadAsk.calls {k : Nat} {a0 : ByteArray} {r1 : S67} {r2 : Bool} {w : World} (h : spec_ReadAsk.f k a0 = some (r1, r2)) :
    Calls Try.prog 37 #[.string a0] w (fun e w' => ∃ v0_ : Value, e = .returned (.tuple #[.agg #[v0_, .int .i64 r1.f1, .int .i64 r1.f2, .int .i64 r1.f3, .int .i64 r1.f4, .bool r1.f5], .bool r2]) ∧ Hp noFP w w' [.own (Zd.slice 9 Zd.string) r1.f0 [v0_]]) := by
 have HS := Hp.start w
 have H := Aside0.mk h
 clear h
 unfold spec_ReadAsk.f at H
 go_enter Try.func37, Try.ntmps37
 replace H := zbind H; obtain ⟨t3, ht3, H⟩ := H
 replace H := zbind H; obtain ⟨t12, ht12, H⟩ := H
 by_cases c14 : t3.2 = true
 · replace H := zpos c14 H
   go_upto_if 26 with (first | ((with_reducible refine gate_dst (N := 2) rfl ?_); refine ev_box rfl HS (by first | (go_simp; done) | (go_simp; rfl)) rfl ?_; clear HS; (try clear F); intro g2 w2 HS; replace HS : Hp noFP w _ [.box g2 [.slice none 0 0, .int .i64 0, .int .i64 0, .int .i64 0, .int .i64 0, .bool false] 67] := HS; have F := HS.boxes; simp only [boxFacts, and_true] at F) | ((with_reducible refine gate_dst (N := 13) rfl ?_); refine ev_call rfl Try.func85 (by kernel_rfl) rfl #[.string a0] rfl (by simp only [List.map_toArray, List.map_cons, List.map_nil]; rfl) ?_; refine (spec_ReadItem.calls ht3.out).mono ?_; rintro _ wt3 ⟨v4, rfl, HQ⟩; refine ⟨_, rfl, ?_⟩; replace HS := HS.call HQ; clear HQ; (try clear F); obtain ⟨B4, d4, rfl, m4⟩ := HS.form 1 rfl; replace HS : Hp noFP w _ [.box g2 [.slice none 0 0, .int .i64 0, .int .i64 0, .int .i64 0, .int .i64 0, .bool false] 67, .own (Zd.slice 107 q107) t3.1.f2 [.slice B4 t3.1.f2.length d4]] := HS; have F := HS.boxes; simp only [boxFacts, and_true] at F; refine HS.lend [0] (by decide) [.box g2 [.slice none 0 0, .int .i64 0, .int .i64 0, .int .i64 0, .int .i64 0, .bool false] 67] rfl (fun A6 HL HD HA HB6 => ?_); have gb6_0 := hide_rd HD 1 rfl (by decide); replace HS := HA; have hV := hide_view A6 wt3; clear HA HD HL; (try clear F); replace HS : Hp A6 wt3 _ [.box g2 [.slice none 0 0, .int .i64 0, .int .i64 0, .int .i64 0, .int .i64 0, .bool false] 67] := HS; have F := HS.boxes; simp only [boxFacts, and_true] at F) | ((with_reducible refine gate_dst (N := 4) rfl ?_); refine ev_box rfl HS (by first | (go_simp; done) | (go_simp; rfl)) rfl ?_; clear HS; (try clear F); intro g4 w4 HS; replace HS : Hp A6 wt3 _ [.box g2 [.slice none 0 0, .int .i64 0, .int .i64 0, .int .i64 0, .int .i64 0, .bool false] 67, .box g4 [.int .i64 0, .string (⟨#[]⟩ : ByteArray), .slice none 0 0] 107] := HS; have F := HS.boxes; simp only [boxFacts, and_true] at F) | ((with_reducible refine gate_store (p := 4) rfl ?_); refine ev_store rfl 1 0 HS (seg := [.int .i64 t3.1.f0, .string t3.1.f1, .slice B4 t3.1.f2.length d4]) rfl rfl rfl rfl rfl rfl (by kernel_rfl) (by simp [wrt]) (by simp [Value.oneCell']) ?_; clear HS; (try clear F); intro w10 HS; replace HS : Hp A6 wt3 _ [.box g2 [.slice none 0 0, .int .i64 0, .int .i64 0, .int .i64 0, .int .i64 0, .bool false] 67, .box g4 [.int .i64 t3.1.f0, .string t3.1.f1, .slice B4 t3.1.f2.length d4] 107] := HS; have F := HS.boxes; simp only [boxFacts, and_true] at F) | ((with_reducible refine gate_dst (N := 18) rfl ?_); refine ev_call rfl Try.func86 (by kernel_rfl) rfl #[.agg #[.int .i64 t3.1.f0, .string t3.1.f1, .slice B4 t3.1.f2.length d4], .int .i64 6] rfl (by simp only [List.map_toArray, List.map_cons, List.map_nil]; rfl) ?_; refine (spec_l09Kids.calls ht12.out (hV.ro km107 HS gb6_0) m4).mono ?_; rintro _ wt12 ⟨rfl, HQ⟩; refine ⟨_, rfl, ?_⟩; replace HS := HS.call HQ; clear HQ; (try clear F); replace HS : Hp A6 wt3 _ [.box g2 [.slice none 0 0, .int .i64 0, .int .i64 0, .int .i64 0, .int .i64 0, .bool false] 67, .box g4 [.int .i64 t3.1.f0, .string t3.1.f1, .slice B4 t3.1.f2.length d4] 107] := HS; have F := HS.boxes; simp only [boxFacts, and_true] at F; (try simp only [c14])))
   by_cases c15 : t12.2 = true
   · replace H := zpos c15 H
     (try simp only [c15, decide_true, decide_false, Bool.not_true, Bool.not_false])
     (try go_wp2)
     by_cases c101001 : 0 < (t3.1.f2.length : Int)
     case neg => exact zno c101001 H
     replace H := zpos c101001 H
     replace c101001 := eq_true c101001
     have c101001n : (0 < t3.1.f2.length) = True := eq_true (by have := of_eq_true c101001; omega)
     obtain ⟨ad101999, B101999_2, d101999_2, rfl, e101999_0, e101999_1, e101999_2, m101999_2, y101999_2⟩ := at_T107 gb6_0 0 (of_eq_true (eq_true (by decide))) (of_eq_true c101001); (try (have e101999_0' := e101999_0; simp only [Int.toNat_zero, Int.reduceToNat, Int.toNat_natCast, Nat.zero_mul, Nat.one_mul, Nat.zero_add, Nat.add_zero, Addr.add_zero', Addr.add_succ', Nat.reduceMul, Nat.reduceAdd] at e101999_0')); (try (have e101999_1' := e101999_1; simp only [Int.toNat_zero, Int.reduceToNat, Int.toNat_natCast, Nat.zero_mul, Nat.one_mul, Nat.zero_add, Nat.add_zero, Addr.add_zero', Addr.add_succ', Nat.reduceMul, Nat.reduceAdd] at e101999_1')); (try (have e101999_2' := e101999_2; simp only [Int.toNat_zero, Int.reduceToNat, Int.toNat_natCast, Nat.zero_mul, Nat.one_mul, Nat.zero_add, Nat.add_zero, Addr.add_zero', Addr.add_succ', Nat.reduceMul, Nat.reduceAdd] at e101999_2'))
     replace H := zbind H; obtain ⟨t103001, ht103001, H⟩ := H
     by_cases c105001 : 5 < (t3.1.f2.length : Int)
     case neg => exact zno c105001 H
     replace H := zpos c105001 H
     replace c105001 := eq_true c105001
     have c105001n : (5 < t3.1.f2.length) = True := eq_true (by have := of_eq_true c105001; omega)
     obtain ⟨ad105999, B105999_2, d105999_2, hq105999, e105999_0, e105999_1, e105999_2, m105999_2, y105999_2⟩ := at_T107 gb6_0 5 (of_eq_true (eq_true (by decide))) (of_eq_true c105001); obtain rfl := Option.some.inj hq105999; (try (have e105999_0' := e105999_0; simp only [Int.toNat_zero, Int.reduceToNat, Int.toNat_natCast, Nat.zero_mul, Nat.one_mul, Nat.zero_add, Nat.add_zero, Addr.add_zero', Addr.add_succ', Nat.reduceMul, Nat.reduceAdd] at e105999_0')); (try (have e105999_1' := e105999_1; simp only [Int.toNat_zero, Int.reduceToNat, Int.toNat_natCast, Nat.zero_mul, Nat.one_mul, Nat.zero_add, Nat.add_zero, Addr.add_zero', Addr.add_succ', Nat.reduceMul, Nat.reduceAdd] at e105999_1')); (try (have e105999_2' := e105999_2; simp only [Int.toNat_zero, Int.reduceToNat, Int.toNat_natCast, Nat.zero_mul, Nat.one_mul, Nat.zero_add, Nat.add_zero, Addr.add_zero', Addr.add_succ', Nat.reduceMul, Nat.reduceAdd] at e105999_2'))
     refine dr_start [11] HS #[false, false, false, false, false, false, false, false, false, false, false, false] (by kernel_rfl) rfl rfl spec_ReadAsk.tT5 (fun w17 HT HS HH => ?_)
     (try clear F)
     refine join_ 0 #[true, true, true, true, true, true, true, true, true, true, true, true] (fun ((v103002, g8, pe29, pe30, pe33, pe34) : Value × Nat × Value × Value × Value × Value) => ([(28, .slice (some ad101999) t3.1.f2.length d4), (29, pe29), (30, pe30), (31, v103002), (32, .slice (some ad101999) t3.1.f2.length d4), (33, pe33), (34, pe34), (35, .string ((rd_T107 t3.1.f2 5).f1)), (36, .bool (((rd_T107 t3.1.f2 5).f1).toList == ([255] : List UInt8))), (37, .agg #[v103002, .int .i64 0, .int .i64 0, .int .i64 0, .int .i64 0, .bool (((rd_T107 t3.1.f2 5).f1).toList == ([255] : List UInt8))]), (8, .pointer (some ⟨g8, 0, none⟩))] : List (Tmp × Value))) (fun ((v103002, g8, pe29, pe30, pe33, pe34) : Value × Nat × Value × Value × Value × Value) w' => Hp A6 wt3 w' [.box g2 [.slice none 0 0, .int .i64 0, .int .i64 0, .int .i64 0, .int .i64 0, .bool false] 67, .box g4 [.int .i64 t3.1.f0, .string t3.1.f1, .slice (some ad101999) t3.1.f2.length d4] 107, .own (Zd.slice 9 Zd.string) t103001 [v103002], .box g8 [v103002, .int .i64 0, .int .i64 0, .int .i64 0, .int .i64 0, .bool (((rd_T107 t3.1.f2 5).f1).toList == ([255] : List UInt8))] 67]) ?_ ?_
     rotate_left
     · intro hJ
       refine drq_of [(0, some 28), (1, some 29)] ?_
       repeat (first | (refine drq_pure HT (v := ?_) (a' := ?_) rfl rfl (by kernel_rfl) (fun _ _ _ h => h) (.inl ⟨by rfl, ?_⟩) ?_ ?_; rotate_left; (intro w'; go_simp; with_reducible rfl); rotate_left; (simp only [Act.put, List.setIfInBounds_toArray, List.set_cons_zero, List.set_cons_succ, i64_w, i32_w]; rfl)))
       refine drq_end ?_
       refine dr_take 2 (some 30) HT HH (v := ?_) (a' := ?_) rfl rfl (by kernel_rfl) (fun _ _ _ h => h) (.inl ⟨by rfl, ?_⟩) ?_ ?_
       rotate_left
       · rintro w' ⟨rs', HS'⟩; have e101999_0 := (hV.keepc HS' e101999_0); have e101999_1 := (hV.keepc HS' e101999_1); have e101999_2 := (hV.keepc HS' e101999_2); (try simp only [Int.toNat_zero, Int.reduceToNat, Int.toNat_natCast, Nat.zero_mul, Nat.one_mul, Nat.zero_add, Nat.add_zero, Addr.add_zero', Addr.add_succ', Nat.reduceMul, Nat.reduceAdd] at e101999_0 e101999_1 e101999_2); go_simp; with_reducible rfl
       rotate_left
       · simp only [Act.put, List.setIfInBounds_toArray, List.set_cons_zero, List.set_cons_succ, i64_w, i32_w]; rfl
       refine drq_of [(4, some 32), (5, some 33), (6, some 34)] ?_
       repeat (first | (refine drq_pure HT (v := ?_) (a' := ?_) rfl rfl (by kernel_rfl) (fun _ _ _ h => h) (.inl ⟨by rfl, ?_⟩) ?_ ?_; rotate_left; (intro w'; go_simp; with_reducible rfl); rotate_left; (simp only [Act.put, List.setIfInBounds_toArray, List.set_cons_zero, List.set_cons_succ, i64_w, i32_w]; rfl)))
       refine drq_end ?_
       refine dr_take 7 (some 35) HT HH (v := ?_) (a' := ?_) rfl rfl (by kernel_rfl) (fun _ _ _ h => h) (.inl ⟨by rfl, ?_⟩) ?_ ?_
       rotate_left
       · rintro w' ⟨rs', HS'⟩; have e105999_0 := (hV.keepc HS' e105999_0); have e105999_1 := (hV.keepc HS' e105999_1); have e105999_2 := (hV.keepc HS' e105999_2); (try simp only [Int.toNat_zero, Int.reduceToNat, Int.toNat_natCast, Nat.zero_mul, Nat.one_mul, Nat.zero_add, Nat.add_zero, Addr.add_zero', Addr.add_succ', Nat.reduceMul, Nat.reduceAdd] at e105999_0 e105999_1 e105999_2); go_simp; with_reducible rfl
       rotate_left
       · simp only [Act.put, List.setIfInBounds_toArray, List.set_cons_zero, List.set_cons_succ, i64_w, i32_w]; rfl
       refine drq_of [(8, some 36)] ?_
       repeat (first | (refine drq_pure HT (v := ?_) (a' := ?_) rfl rfl (by kernel_rfl) (fun _ _ _ h => h) (.inl ⟨by rfl, ?_⟩) ?_ ?_; rotate_left; (intro w'; go_simp; with_reducible rfl); rotate_left; (simp only [Act.put, List.setIfInBounds_toArray, List.set_cons_zero, List.set_cons_succ, i64_w, i32_w]; rfl)))
       refine drq_end ?_
       refine dr_any [3, 10] HT (by kernel_rfl) (by decide) (AllReadyL.cons rfl (by decide) (fun K hK => ?_) (AllReadyL.cons rfl (by decide) (fun K hK => ?_) AllReadyL.nil))
       · refine goes_ Try.func87 (by kernel_rfl) rfl #[.agg #[.int .i64 ((rd_T107 t3.1.f2 0).f0), .string ((rd_T107 t3.1.f2 0).f1), .slice B101999_2 (rd_T107 t3.1.f2 0).f2.length d101999_2]] (by rfl) rfl rfl (by simp only [List.map_toArray, List.map_cons, List.map_nil]; rfl) ?_; refine (spec_l09TextsIn.calls ht103001.out (hV.ro km107 HS y101999_2) m101999_2).mono ?_; rintro _ wt103001 ⟨v103002, rfl, HQ⟩; refine ⟨_, rfl, ?_⟩; replace HS := HS.call HQ; clear HQ; (try clear F); obtain ⟨B103002, d103002, rfl, m103002⟩ := HS.form 2 rfl
         replace HS : Hp A6 wt3 _ [.box g2 [.slice none 0 0, .int .i64 0, .int .i64 0, .int .i64 0, .int .i64 0, .bool false] 67, .box g4 [.int .i64 t3.1.f0, .string t3.1.f1, .slice (some ad101999) t3.1.f2.length d4] 107, .own (Zd.slice 9 Zd.string) t103001 [.slice B103002 t103001.length d103002]] := HS
         have F := HS.boxes; simp only [boxFacts, and_true] at F
         refine hK.out _ _ ⟨_, HS⟩ (fun HH => ?_)
         clear hK K
         refine norm_ (a' := ?_) ?_ ?_
         rotate_left
         · show Act.put _ (some 31) _ = _; simp only [Act.put, List.setIfInBounds_toArray, List.set_cons_zero, List.set_cons_succ, i64_w, i32_w, c14, c15]; rfl
         refine drq_of [(9, some 37)] ?_
         repeat (first | (refine drq_pure HT (v := ?_) (a' := ?_) rfl rfl (by kernel_rfl) (fun _ _ _ h => h) (.inl ⟨by rfl, ?_⟩) ?_ ?_; rotate_left; (intro w'; go_simp; with_reducible rfl); rotate_left; (simp only [Act.put, List.setIfInBounds_toArray, List.set_cons_zero, List.set_cons_succ, i64_w, i32_w]; rfl)))
         refine drq_end ?_
         refine dr_one 10 HT rfl (by kernel_rfl) (by decide) (fun K hK => ?_)
         refine if_wp (by rfl) ?_; refine wp_box HS (by first | (go_simp; done) | (go_simp; rfl)) rfl ?_; clear HS; (try clear F); intro g8 w8 HS
         replace HS : Hp A6 wt3 _ [.box g2 [.slice none 0 0, .int .i64 0, .int .i64 0, .int .i64 0, .int .i64 0, .bool false] 67, .box g4 [.int .i64 t3.1.f0, .string t3.1.f1, .slice (some ad101999) t3.1.f2.length d4] 107, .own (Zd.slice 9 Zd.string) t103001 [.slice B103002 t103001.length d103002], .box g8 [.slice none 0 0, .int .i64 0, .int .i64 0, .int .i64 0, .int .i64 0, .bool false] 67] := HS
         have F := HS.boxes; simp only [boxFacts, and_true] at F
         refine hK.out _ _ ⟨_, HS⟩ (fun HH => ?_)
         clear hK K
         refine norm_ (a' := ?_) ?_ ?_
         rotate_left
         · show Act.put _ (some 8) _ = _; simp only [Act.put, List.setIfInBounds_toArray, List.set_cons_zero, List.set_cons_succ, i64_w, i32_w, c14, c15]; rfl
         refine dr_last 11 HT rfl (by kernel_rfl) (by decide) (fun K hK => ?_)
         refine if_wp (by rfl) ?_; refine wp_store 3 0 HS (seg := [.slice B103002 t103001.length d103002, .int .i64 0, .int .i64 0, .int .i64 0, .int .i64 0, .bool (((rd_T107 t3.1.f2 5).f1).toList == ([255] : List UInt8))]) rfl rfl rfl rfl rfl rfl (by kernel_rfl) (by simp [wrt]) (by simp [Value.oneCell']) ?_; clear HS; (try clear F); intro w111001 HS
         replace HS : Hp A6 wt3 _ [.box g2 [.slice none 0 0, .int .i64 0, .int .i64 0, .int .i64 0, .int .i64 0, .bool false] 67, .box g4 [.int .i64 t3.1.f0, .string t3.1.f1, .slice (some ad101999) t3.1.f2.length d4] 107, .own (Zd.slice 9 Zd.string) t103001 [.slice B103002 t103001.length d103002], .box g8 [.slice B103002 t103001.length d103002, .int .i64 0, .int .i64 0, .int .i64 0, .int .i64 0, .bool (((rd_T107 t3.1.f2 5).f1).toList == ([255] : List UInt8))] 67] := HS
         have F := HS.boxes; simp only [boxFacts, and_true] at F
         refine hK.out _ _ ?_
         clear hK K
         refine norm_ ?_ (hJ (.slice B103002 t103001.length d103002, g8, .pointer (some ad101999), .agg #[.int .i64 ((rd_T107 t3.1.f2 0).f0), .string ((rd_T107 t3.1.f2 0).f1), .slice B101999_2 (rd_T107 t3.1.f2 0).f2.length d101999_2], .pointer (some (ad101999.add 15)), .pointer (some (ad101999.add 16))) _ (HS.arr [some 0, some 1, some 2, some 3] (by decide)))
         simp only [putAll, Act.put, List.setIfInBounds_toArray, List.set_cons_zero, List.set_cons_succ, i64_w, i32_w, c14, c15]
         (try rfl)
       · refine if_wp (by rfl) ?_; refine wp_box HS (by first | (go_simp; done) | (go_simp; rfl)) rfl ?_; clear HS; (try clear F); intro g8 w8 HS
         replace HS : Hp A6 wt3 _ [.box g2 [.slice none 0 0, .int .i64 0, .int .i64 0, .int .i64 0, .int .i64 0, .bool false] 67, .box g4 [.int .i64 t3.1.f0, .string t3.1.f1, .slice (some ad101999) t3.1.f2.length d4] 107, .box g8 [.slice none 0 0, .int .i64 0, .int .i64 0, .int .i64 0, .int .i64 0, .bool false] 67] := HS
         have F := HS.boxes; simp only [boxFacts, and_true] at F
         refine hK.out _ _ ⟨_, HS⟩ (fun HH => ?_)
         clear hK K
         refine norm_ (a' := ?_) ?_ ?_
         rotate_left
         · show Act.put _ (some 8) _ = _; simp only [Act.put, List.setIfInBounds_toArray, List.set_cons_zero, List.set_cons_succ, i64_w, i32_w, c14, c15]; rfl
         refine dr_one 3 HT rfl (by kernel_rfl) (by decide) (fun K hK => ?_)
         refine goes_ Try.func87 (by kernel_rfl) rfl #[.agg #[.int .i64 ((rd_T107 t3.1.f2 0).f0), .string ((rd_T107 t3.1.f2 0).f1), .slice B101999_2 (rd_T107 t3.1.f2 0).f2.length d101999_2]] (by rfl) rfl rfl (by simp only [List.map_toArray, List.map_cons, List.map_nil]; rfl) ?_; refine (spec_l09TextsIn.calls ht103001.out (hV.ro km107 HS y101999_2) m101999_2).mono ?_; rintro _ wt103001 ⟨v103002, rfl, HQ⟩; refine ⟨_, rfl, ?_⟩; replace HS := HS.call HQ; clear HQ; (try clear F); obtain ⟨B103002, d103002, rfl, m103002⟩ := HS.form 3 rfl
         replace HS : Hp A6 wt3 _ [.box g2 [.slice none 0 0, .int .i64 0, .int .i64 0, .int .i64 0, .int .i64 0, .bool false] 67, .box g4 [.int .i64 t3.1.f0, .string t3.1.f1, .slice (some ad101999) t3.1.f2.length d4] 107, .box g8 [.slice none 0 0, .int .i64 0, .int .i64 0, .int .i64 0, .int .i64 0, .bool false] 67, .own (Zd.slice 9 Zd.string) t103001 [.slice B103002 t103001.length d103002]] := HS
         have F := HS.boxes; simp only [boxFacts, and_true] at F
         refine hK.out _ _ ⟨_, HS⟩ (fun HH => ?_)
         clear hK K
         refine norm_ (a' := ?_) ?_ ?_
         rotate_left
         · show Act.put _ (some 31) _ = _; simp only [Act.put, List.setIfInBounds_toArray, List.set_cons_zero, List.set_cons_succ, i64_w, i32_w, c14, c15]; rfl
         refine drq_of [(9, some 37)] ?_
         repeat (first | (refine drq_pure HT (v := ?_) (a' := ?_) rfl rfl (by kernel_rfl) (fun _ _ _ h => h) (.inl ⟨by rfl, ?_⟩) ?_ ?_; rotate_left; (intro w'; go_simp; with_reducible rfl); rotate_left; (simp only [Act.put, List.setIfInBounds_toArray, List.set_cons_zero, List.set_cons_succ, i64_w, i32_w]; rfl)))
         refine drq_end ?_
         refine dr_last 11 HT rfl (by kernel_rfl) (by decide) (fun K hK => ?_)
         refine if_wp (by rfl) ?_; refine wp_store 2 0 HS (seg := [.slice B103002 t103001.length d103002, .int .i64 0, .int .i64 0, .int .i64 0, .int .i64 0, .bool (((rd_T107 t3.1.f2 5).f1).toList == ([255] : List UInt8))]) rfl rfl rfl rfl rfl rfl (by kernel_rfl) (by simp [wrt]) (by simp [Value.oneCell']) ?_; clear HS; (try clear F); intro w111001 HS
         replace HS : Hp A6 wt3 _ [.box g2 [.slice none 0 0, .int .i64 0, .int .i64 0, .int .i64 0, .int .i64 0, .bool false] 67, .box g4 [.int .i64 t3.1.f0, .string t3.1.f1, .slice (some ad101999) t3.1.f2.length d4] 107, .box g8 [.slice B103002 t103001.length d103002, .int .i64 0, .int .i64 0, .int .i64 0, .int .i64 0, .bool (((rd_T107 t3.1.f2 5).f1).toList == ([255] : List UInt8))] 67, .own (Zd.slice 9 Zd.string) t103001 [.slice B103002 t103001.length d103002]] := HS
         have F := HS.boxes; simp only [boxFacts, and_true] at F
         refine hK.out _ _ ?_
         clear hK K
         refine norm_ ?_ (hJ (.slice B103002 t103001.length d103002, g8, .pointer (some ad101999), .agg #[.int .i64 ((rd_T107 t3.1.f2 0).f0), .string ((rd_T107 t3.1.f2 0).f1), .slice B101999_2 (rd_T107 t3.1.f2 0).f2.length d101999_2], .pointer (some (ad101999.add 15)), .pointer (some (ad101999.add 16))) _ (HS.arr [some 0, some 1, some 3, some 2] (by decide)))
         simp only [putAll, Act.put, List.setIfInBounds_toArray, List.set_cons_zero, List.set_cons_succ, i64_w, i32_w, c14, c15]
         (try rfl)
     rintro ⟨v103002, g8, pe29, pe30, pe33, pe34⟩ w199999 HS
     obtain ⟨B103002, d103002, rfl, m103002⟩ := HS.form 2 rfl
     have F := HS.boxes; simp only [boxFacts, and_true] at F
     refine norm_ (a' := ?_) ?_ ?_
     rotate_left
     · simp only [putAll, Act.put, List.setIfInBounds_toArray, List.set_cons_zero, List.set_cons_succ, i64_w, i32_w, c14, c15]; rfl
     refine done_ (done_of HT.out (by kernel_rfl)) ?_
     by_cases c19 : 1 < (t3.1.f2.length : Int)
     case neg => exact zno c19 H
     replace H := zpos c19 H
     replace c19 := eq_true c19
     have c19n : (1 < t3.1.f2.length) = True := eq_true (by have := of_eq_true c19; omega)
     obtain ⟨ad20, B20_2, d20_2, hq20, e20_0, e20_1, e20_2, m20_2, y20_2⟩ := at_T107 gb6_0 1 (of_eq_true (eq_true (by decide))) (of_eq_true c19)
     obtain rfl := Option.some.inj hq20
     (try (have e20_0' := e20_0; simp only [Int.toNat_zero, Int.reduceToNat, Int.toNat_natCast, Nat.zero_mul, Nat.one_mul, Nat.zero_add, Nat.add_zero, Addr.add_zero', Addr.add_succ', Nat.reduceMul, Nat.reduceAdd] at e20_0'))
     (try (have e20_1' := e20_1; simp only [Int.toNat_zero, Int.reduceToNat, Int.toNat_natCast, Nat.zero_mul, Nat.one_mul, Nat.zero_add, Nat.add_zero, Addr.add_zero', Addr.add_succ', Nat.reduceMul, Nat.reduceAdd] at e20_1'))
     (try (have e20_2' := e20_2; simp only [Int.toNat_zero, Int.reduceToNat, Int.toNat_natCast, Nat.zero_mul, Nat.one_mul, Nat.zero_add, Nat.add_zero, Addr.add_zero', Addr.add_succ', Nat.reduceMul, Nat.reduceAdd] at e20_2'))
     have e20_0_20 := (hV.keepc HS e20_0)
     have e20_1_20 := (hV.keepc HS e20_1)
     have e20_2_20 := (hV.keepc HS e20_2)
     (try have e20_0'_20 := (hV.keepc HS e20_0'))
     (try have e20_1'_20 := (hV.keepc HS e20_1'))
     (try have e20_2'_20 := (hV.keepc HS e20_2'))
     replace H := zbind H; obtain ⟨t21, ht21, H⟩ := H
     by_cases c25 : 2 < (t3.1.f2.length : Int)
     case neg => exact zno c25 H
     replace H := zpos c25 H
     replace c25 := eq_true c25
     have c25n : (2 < t3.1.f2.length) = True := eq_true (by have := of_eq_true c25; omega)
     replace H := zbind H; obtain ⟨t27, ht27, H⟩ := H
     by_cases c31 : 3 < (t3.1.f2.length : Int)
     case neg => exact zno c31 H
     replace H := zpos c31 H
     replace c31 := eq_true c31
     have c31n : (3 < t3.1.f2.length) = True := eq_true (by have := of_eq_true c31; omega)
     replace H := zbind H; obtain ⟨t33, ht33, H⟩ := H
     by_cases c37 : 4 < (t3.1.f2.length : Int)
     case neg => exact zno c37 H
     replace H := zpos c37 H
     replace c37 := eq_true c37
     have c37n : (4 < t3.1.f2.length) = True := eq_true (by have := of_eq_true c37; omega)
     replace H := zbind H; obtain ⟨t39, ht39, H⟩ := H
     replace H := zbind H; obtain ⟨t43, ht43, H⟩ := H
     by_cases c45 : t43.2 = true
     · replace H := zpos c45 H
       go_upto_if 81 with (first | ((with_reducible refine gate_dst (N := 42) rfl ?_); refine ev_call rfl Try.func88 (by kernel_rfl) rfl #[.agg #[.int .i64 ((rd_T107 t3.1.f2 1).f0), .string ((rd_T107 t3.1.f2 1).f1), .slice B20_2 (rd_T107 t3.1.f2 1).f2.length d20_2]] rfl (by simp only [List.map_toArray, List.map_cons, List.map_nil]; rfl) ?_; refine (spec_IntIn.calls ht21.out (hV.ro km107 HS y20_2) m20_2).mono ?_; rintro _ wt21 ⟨rfl, HQ⟩; refine ⟨_, rfl, ?_⟩; replace HS := HS.call HQ; clear HQ; (try clear F); replace HS : Hp A6 wt3 _ [.box g2 [.slice none 0 0, .int .i64 0, .int .i64 0, .int .i64 0, .int .i64 0, .bool false] 67, .box g4 [.int .i64 t3.1.f0, .string t3.1.f1, .slice (some ad101999) t3.1.f2.length d4] 107, .own (Zd.slice 9 Zd.string) t103001 [.slice B103002 t103001.length d103002], .box g8 [.slice B103002 t103001.length d103002, .int .i64 0, .int .i64 0, .int .i64 0, .int .i64 0, .bool (((rd_T107 t3.1.f2 5).f1).toList == ([255] : List UInt8))] 67] := HS; have F := HS.boxes; simp only [boxFacts, and_true] at F) | ((with_reducible refine gate_store (p := 45) rfl ?_); refine ev_store rfl 3 1 HS (seg := [.int .i64 t21.1]) rfl rfl rfl rfl rfl rfl (by kernel_rfl) (by simp [wrt]) (by simp [Value.oneCell']) ?_; clear HS; (try clear F); intro w23 HS; replace HS : Hp A6 wt3 _ [.box g2 [.slice none 0 0, .int .i64 0, .int .i64 0, .int .i64 0, .int .i64 0, .bool false] 67, .box g4 [.int .i64 t3.1.f0, .string t3.1.f1, .slice (some ad101999) t3.1.f2.length d4] 107, .own (Zd.slice 9 Zd.string) t103001 [.slice B103002 t103001.length d103002], .box g8 [.slice B103002 t103001.length d103002, .int .i64 t21.1, .int .i64 0, .int .i64 0, .int .i64 0, .bool (((rd_T107 t3.1.f2 5).f1).toList == ([255] : List UInt8))] 67] := HS; have F := HS.boxes; simp only [boxFacts, and_true] at F; obtain ⟨ad26, B26_2, d26_2, hq26, e26_0, e26_1, e26_2, m26_2, y26_2⟩ := at_T107 gb6_0 2 (of_eq_true (eq_true (by decide))) (of_eq_true c25); obtain rfl := Option.some.inj hq26; (try (have e26_0' := e26_0; simp only [Int.toNat_zero, Int.reduceToNat, Int.toNat_natCast, Nat.zero_mul, Nat.one_mul, Nat.zero_add, Nat.add_zero, Addr.add_zero', Addr.add_succ', Nat.reduceMul, Nat.reduceAdd] at e26_0')); (try (have e26_1' := e26_1; simp only [Int.toNat_zero, Int.reduceToNat, Int.toNat_natCast, Nat.zero_mul, Nat.one_mul, Nat.zero_add, Nat.add_zero, Addr.add_zero', Addr.add_succ', Nat.reduceMul, Nat.reduceAdd] at e26_1')); (try (have e26_2' := e26_2; simp only [Int.toNat_zero, Int.reduceToNat, Int.toNat_natCast, Nat.zero_mul, Nat.one_mul, Nat.zero_add, Nat.add_zero, Addr.add_zero', Addr.add_succ', Nat.reduceMul, Nat.reduceAdd] at e26_2')); have e26_0_26 := (hV.keepc HS e26_0); have e26_1_26 := (hV.keepc HS e26_1); have e26_2_26 := (hV.keepc HS e26_2); (try have e26_0'_26 := (hV.keepc HS e26_0')); (try have e26_1'_26 := (hV.keepc HS e26_1')); (try have e26_2'_26 := (hV.keepc HS e26_2'))) | ((with_reducible refine gate_dst (N := 50) rfl ?_); refine ev_call rfl Try.func88 (by kernel_rfl) rfl #[.agg #[.int .i64 ((rd_T107 t3.1.f2 2).f0), .string ((rd_T107 t3.1.f2 2).f1), .slice B26_2 (rd_T107 t3.1.f2 2).f2.length d26_2]] rfl (by simp only [List.map_toArray, List.map_cons, List.map_nil]; rfl) ?_; refine (spec_IntIn.calls ht27.out (hV.ro km107 HS y26_2) m26_2).mono ?_; rintro _ wt27 ⟨rfl, HQ⟩; refine ⟨_, rfl, ?_⟩; replace HS := HS.call HQ; clear HQ; (try clear F); replace HS : Hp A6 wt3 _ [.box g2 [.slice none 0 0, .int .i64 0, .int .i64 0, .int .i64 0, .int .i64 0, .bool false] 67, .box g4 [.int .i64 t3.1.f0, .string t3.1.f1, .slice (some ad101999) t3.1.f2.length d4] 107, .own (Zd.slice 9 Zd.string) t103001 [.slice B103002 t103001.length d103002], .box g8 [.slice B103002 t103001.length d103002, .int .i64 t21.1, .int .i64 0, .int .i64 0, .int .i64 0, .bool (((rd_T107 t3.1.f2 5).f1).toList == ([255] : List UInt8))] 67] := HS; have F := HS.boxes; simp only [boxFacts, and_true] at F) | ((with_reducible refine gate_store (p := 53) rfl ?_); refine ev_store rfl 3 2 HS (seg := [.int .i64 t27.1]) rfl rfl rfl rfl rfl rfl (by kernel_rfl) (by simp [wrt]) (by simp [Value.oneCell']) ?_; clear HS; (try clear F); intro w29 HS; replace HS : Hp A6 wt3 _ [.box g2 [.slice none 0 0, .int .i64 0, .int .i64 0, .int .i64 0, .int .i64 0, .bool false] 67, .box g4 [.int .i64 t3.1.f0, .string t3.1.f1, .slice (some ad101999) t3.1.f2.length d4] 107, .own (Zd.slice 9 Zd.string) t103001 [.slice B103002 t103001.length d103002], .box g8 [.slice B103002 t103001.length d103002, .int .i64 t21.1, .int .i64 t27.1, .int .i64 0, .int .i64 0, .bool (((rd_T107 t3.1.f2 5).f1).toList == ([255] : List UInt8))] 67] := HS; have F := HS.boxes; simp only [boxFacts, and_true] at F; obtain ⟨ad32, B32_2, d32_2, hq32, e32_0, e32_1, e32_2, m32_2, y32_2⟩ := at_T107 gb6_0 3 (of_eq_true (eq_true (by decide))) (of_eq_true c31); obtain rfl := Option.some.inj hq32; (try (have e32_0' := e32_0; simp only [Int.toNat_zero, Int.reduceToNat, Int.toNat_natCast, Nat.zero_mul, Nat.one_mul, Nat.zero_add, Nat.add_zero, Addr.add_zero', Addr.add_succ', Nat.reduceMul, Nat.reduceAdd] at e32_0')); (try (have e32_1' := e32_1; simp only [Int.toNat_zero, Int.reduceToNat, Int.toNat_natCast, Nat.zero_mul, Nat.one_mul, Nat.zero_add, Nat.add_zero, Addr.add_zero', Addr.add_succ', Nat.reduceMul, Nat.reduceAdd] at e32_1')); (try (have e32_2' := e32_2; simp only [Int.toNat_zero, Int.reduceToNat, Int.toNat_natCast, Nat.zero_mul, Nat.one_mul, Nat.zero_add, Nat.add_zero, Addr.add_zero', Addr.add_succ', Nat.reduceMul, Nat.reduceAdd] at e32_2')); have e32_0_32 := (hV.keepc HS e32_0); have e32_1_32 := (hV.keepc HS e32_1); have e32_2_32 := (hV.keepc HS e32_2); (try have e32_0'_32 := (hV.keepc HS e32_0')); (try have e32_1'_32 := (hV.keepc HS e32_1')); (try have e32_2'_32 := (hV.keepc HS e32_2'))) | ((with_reducible refine gate_dst (N := 58) rfl ?_); refine ev_call rfl Try.func88 (by kernel_rfl) rfl #[.agg #[.int .i64 ((rd_T107 t3.1.f2 3).f0), .string ((rd_T107 t3.1.f2 3).f1), .slice B32_2 (rd_T107 t3.1.f2 3).f2.length d32_2]] rfl (by simp only [List.map_toArray, List.map_cons, List.map_nil]; rfl) ?_; refine (spec_IntIn.calls ht33.out (hV.ro km107 HS y32_2) m32_2).mono ?_; rintro _ wt33 ⟨rfl, HQ⟩; refine ⟨_, rfl, ?_⟩; replace HS := HS.call HQ; clear HQ; (try clear F); replace HS : Hp A6 wt3 _ [.box g2 [.slice none 0 0, .int .i64 0, .int .i64 0, .int .i64 0, .int .i64 0, .bool false] 67, .box g4 [.int .i64 t3.1.f0, .string t3.1.f1, .slice (some ad101999) t3.1.f2.length d4] 107, .own (Zd.slice 9 Zd.string) t103001 [.slice B103002 t103001.length d103002], .box g8 [.slice B103002 t103001.length d103002, .int .i64 t21.1, .int .i64 t27.1, .int .i64 0, .int .i64 0, .bool (((rd_T107 t3.1.f2 5).f1).toList == ([255] : List UInt8))] 67] := HS; have F := HS.boxes; simp only [boxFacts, and_true] at F) | ((with_reducible refine gate_store (p := 61) rfl ?_); refine ev_store rfl 3 3 HS (seg := [.int .i64 t33.1]) rfl rfl rfl rfl rfl rfl (by kernel_rfl) (by simp [wrt]) (by simp [Value.oneCell']) ?_; clear HS; (try clear F); intro w35 HS; replace HS : Hp A6 wt3 _ [.box g2 [.slice none 0 0, .int .i64 0, .int .i64 0, .int .i64 0, .int .i64 0, .bool false] 67, .box g4 [.int .i64 t3.1.f0, .string t3.1.f1, .slice (some ad101999) t3.1.f2.length d4] 107, .own (Zd.slice 9 Zd.string) t103001 [.slice B103002 t103001.length d103002], .box g8 [.slice B103002 t103001.length d103002, .int .i64 t21.1, .int .i64 t27.1, .int .i64 t33.1, .int .i64 0, .bool (((rd_T107 t3.1.f2 5).f1).toList == ([255] : List UInt8))] 67] := HS; have F := HS.boxes; simp only [boxFacts, and_true] at F; obtain ⟨ad38, B38_2, d38_2, hq38, e38_0, e38_1, e38_2, m38_2, y38_2⟩ := at_T107 gb6_0 4 (of_eq_true (eq_true (by decide))) (of_eq_true c37); obtain rfl := Option.some.inj hq38; (try (have e38_0' := e38_0; simp only [Int.toNat_zero, Int.reduceToNat, Int.toNat_natCast, Nat.zero_mul, Nat.one_mul, Nat.zero_add, Nat.add_zero, Addr.add_zero', Addr.add_succ', Nat.reduceMul, Nat.reduceAdd] at e38_0')); (try (have e38_1' := e38_1; simp only [Int.toNat_zero, Int.reduceToNat, Int.toNat_natCast, Nat.zero_mul, Nat.one_mul, Nat.zero_add, Nat.add_zero, Addr.add_zero', Addr.add_succ', Nat.reduceMul, Nat.reduceAdd] at e38_1')); (try (have e38_2' := e38_2; simp only [Int.toNat_zero, Int.reduceToNat, Int.toNat_natCast, Nat.zero_mul, Nat.one_mul, Nat.zero_add, Nat.add_zero, Addr.add_zero', Addr.add_succ', Nat.reduceMul, Nat.reduceAdd] at e38_2')); have e38_0_38 := (hV.keepc HS e38_0); have e38_1_38 := (hV.keepc HS e38_1); have e38_2_38 := (hV.keepc HS e38_2); (try have e38_0'_38 := (hV.keepc HS e38_0')); (try have e38_1'_38 := (hV.keepc HS e38_1')); (try have e38_2'_38 := (hV.keepc HS e38_2'))) | ((with_reducible refine gate_dst (N := 66) rfl ?_); refine ev_call rfl Try.func88 (by kernel_rfl) rfl #[.agg #[.int .i64 ((rd_T107 t3.1.f2 4).f0), .string ((rd_T107 t3.1.f2 4).f1), .slice B38_2 (rd_T107 t3.1.f2 4).f2.length d38_2]] rfl (by simp only [List.map_toArray, List.map_cons, List.map_nil]; rfl) ?_; refine (spec_IntIn.calls ht39.out (hV.ro km107 HS y38_2) m38_2).mono ?_; rintro _ wt39 ⟨rfl, HQ⟩; refine ⟨_, rfl, ?_⟩; replace HS := HS.call HQ; clear HQ; (try clear F); replace HS : Hp A6 wt3 _ [.box g2 [.slice none 0 0, .int .i64 0, .int .i64 0, .int .i64 0, .int .i64 0, .bool false] 67, .box g4 [.int .i64 t3.1.f0, .string t3.1.f1, .slice (some ad101999) t3.1.f2.length d4] 107, .own (Zd.slice 9 Zd.string) t103001 [.slice B103002 t103001.length d103002], .box g8 [.slice B103002 t103001.length d103002, .int .i64 t21.1, .int .i64 t27.1, .int .i64 t33.1, .int .i64 0, .bool (((rd_T107 t3.1.f2 5).f1).toList == ([255] : List UInt8))] 67] := HS; have F := HS.boxes; simp only [boxFacts, and_true] at F) | ((with_reducible refine gate_store (p := 69) rfl ?_); refine ev_store rfl 3 4 HS (seg := [.int .i64 t39.1]) rfl rfl rfl rfl rfl rfl (by kernel_rfl) (by simp [wrt]) (by simp [Value.oneCell']) ?_; clear HS; (try clear F); intro w41 HS; replace HS : Hp A6 wt3 _ [.box g2 [.slice none 0 0, .int .i64 0, .int .i64 0, .int .i64 0, .int .i64 0, .bool false] 67, .box g4 [.int .i64 t3.1.f0, .string t3.1.f1, .slice (some ad101999) t3.1.f2.length d4] 107, .own (Zd.slice 9 Zd.string) t103001 [.slice B103002 t103001.length d103002], .box g8 [.slice B103002 t103001.length d103002, .int .i64 t21.1, .int .i64 t27.1, .int .i64 t33.1, .int .i64 t39.1, .bool (((rd_T107 t3.1.f2 5).f1).toList == ([255] : List UInt8))] 67] := HS; have F := HS.boxes; simp only [boxFacts, and_true] at F) | ((with_reducible refine gate_dst (N := 72) rfl ?_); refine ev_call rfl Try.func89 (by kernel_rfl) rfl #[.agg #[.slice B103002 t103001.length d103002, .int .i64 t21.1, .int .i64 t27.1, .int .i64 t33.1, .int .i64 t39.1, .bool (((rd_T107 t3.1.f2 5).f1).toList == ([255] : List UInt8))]] rfl (by simp only [List.map_toArray, List.map_cons, List.map_nil]; rfl) ?_; refine (spec_AskText.calls ht43.out (HS.rd 2 rfl) m103002).mono ?_; rintro _ wt43 ⟨rfl, HQ⟩; refine ⟨_, rfl, ?_⟩; replace HS := HS.call HQ; clear HQ; (try clear F); replace HS : Hp A6 wt3 _ [.box g2 [.slice none 0 0, .int .i64 0, .int .i64 0, .int .i64 0, .int .i64 0, .bool false] 67, .box g4 [.int .i64 t3.1.f0, .string t3.1.f1, .slice (some ad101999) t3.1.f2.length d4] 107, .own (Zd.slice 9 Zd.string) t103001 [.slice B103002 t103001.length d103002], .box g8 [.slice B103002 t103001.length d103002, .int .i64 t21.1, .int .i64 t27.1, .int .i64 t33.1, .int .i64 t39.1, .bool (((rd_T107 t3.1.f2 5).f1).toList == ([255] : List UInt8))] 67] := HS; have F := HS.boxes; simp only [boxFacts, and_true] at F; (try simp only [c45])))
       by_cases c46 : t43.1.toList = a0.toList
       · replace H := zpos c46 H
         have c46a := beq_iff_eq.mpr c46
         have c46b := bne_eq_false_iff_eq.mpr c46
         clear c46
         (try simp only [c46a, c46b, decide_true, decide_false, Bool.not_true, Bool.not_false])
         obtain ⟨rfl, rfl⟩ := zsome2 H
         go_wp2_with (first | ((with_reducible refine gate_store (p := 2) rfl ?_); refine ev_store rfl 0 0 HS (seg := [.slice B103002 t103001.length d103002, .int .i64 t21.1, .int .i64 t27.1, .int .i64 t33.1, .int .i64 t39.1, .bool (((rd_T107 t3.1.f2 5).f1).toList == ([255] : List UInt8))]) rfl rfl rfl rfl rfl rfl (by kernel_rfl) (by simp [wrt]) (by simp [Value.oneCell']) ?_; clear HS; (try clear F); intro w47 HS; replace HS : Hp A6 wt3 _ [.box g2 [.slice B103002 t103001.length d103002, .int .i64 t21.1, .int .i64 t27.1, .int .i64 t33.1, .int .i64 t39.1, .bool (((rd_T107 t3.1.f2 5).f1).toList == ([255] : List UInt8))] 67, .box g4 [.int .i64 t3.1.f0, .string t3.1.f1, .slice (some ad101999) t3.1.f2.length d4] 107, .own (Zd.slice 9 Zd.string) t103001 [.slice B103002 t103001.length d103002], .box g8 [.slice B103002 t103001.length d103002, .int .i64 t21.1, .int .i64 t27.1, .int .i64 t33.1, .int .i64 t39.1, .bool (((rd_T107 t3.1.f2 5).f1).toList == ([255] : List UInt8))] 67] := HS; have F := HS.boxes; simp only [boxFacts, and_true] at F))
         have HS := HB6 _ _ HS (Nat.le_of_ble_eq_true rfl)
         exact bodyPost_ret (results_list (rs := [.cell 2 67, .tmp 3]) rfl (by simp) (.cell _ _ _ _ _ rfl (HS.boxAt (i := 0) rfl) Try.underlying67 rfl (by kernel_rfl) (.tmp .nil))) rfl ⟨_, rfl, HS.pick [3] (by decide) (by rfl)⟩
       · replace H := zneg c46 H
         have c46a := beq_eq_false_iff_ne.mpr c46
         have c46b := bne_iff_ne.mpr c46
         clear c46
         (try simp only [c46a, c46b, decide_true, decide_false, Bool.not_true, Bool.not_false])
         obtain ⟨rfl, rfl⟩ := zsome2 H
         go_wp2_with (first | ((with_reducible refine gate_store (p := 2) rfl ?_); refine ev_store rfl 0 0 HS (seg := [.slice none 0 0, .int .i64 0, .int .i64 0, .int .i64 0, .int .i64 0, .bool false]) rfl rfl rfl rfl rfl rfl (by kernel_rfl) (by simp [wrt]) (by simp [Value.oneCell']) ?_; clear HS; (try clear F); intro w49 HS; replace HS : Hp A6 wt3 _ [.box g2 [.slice none 0 0, .int .i64 0, .int .i64 0, .int .i64 0, .int .i64 0, .bool false] 67, .box g4 [.int .i64 t3.1.f0, .string t3.1.f1, .slice (some ad101999) t3.1.f2.length d4] 107, .own (Zd.slice 9 Zd.string) t103001 [.slice B103002 t103001.length d103002], .box g8 [.slice B103002 t103001.length d103002, .int .i64 t21.1, .int .i64 t27.1, .int .i64 t33.1, .int .i64 t39.1, .bool (((rd_T107 t3.1.f2 5).f1).toList == ([255] : List UInt8))] 67] := HS; have F := HS.boxes; simp only [boxFacts, and_true] at F))
         have HS := HB6 _ _ HS (Nat.le_of_ble_eq_true rfl)
         replace HS := HS.nil 9 Zd.string
         exact bodyPost_ret (results_list (rs := [.cell 2 67, .tmp 3]) rfl (by simp) (.cell _ _ _ _ _ rfl (HS.boxAt (i := 0) rfl) Try.underlying67 rfl (by kernel_rfl) (.tmp .nil))) rfl ⟨_, rfl, HS.pick [5] (by decide) (by rfl)⟩
     · replace H := zneg c45 H
       replace c45 := eq_false_of_ne_true c45
       obtain ⟨rfl, rfl⟩ := zsome2 H
       go_wp2_with (first | ((with_reducible refine gate_dst (N := 42) rfl ?_); refine ev_call rfl Try.func88 (by kernel_rfl) rfl #[.agg #[.int .i64 ((rd_T107 t3.1.f2 1).f0), .string ((rd_T107 t3.1.f2 1).f1), .slice B20_2 (rd_T107 t3.1.f2 1).f2.length d20_2]] rfl (by simp only [List.map_toArray, List.map_cons, List.map_nil]; rfl) ?_; refine (spec_IntIn.calls ht21.out (hV.ro km107 HS y20_2) m20_2).mono ?_; rintro _ wt21 ⟨rfl, HQ⟩; refine ⟨_, rfl, ?_⟩; replace HS := HS.call HQ; clear HQ; (try clear F); replace HS : Hp A6 wt3 _ [.box g2 [.slice none 0 0, .int .i64 0, .int .i64 0, .int .i64 0, .int .i64 0, .bool false] 67, .box g4 [.int .i64 t3.1.f0, .string t3.1.f1, .slice (some ad101999) t3.1.f2.length d4] 107, .own (Zd.slice 9 Zd.string) t103001 [.slice B103002 t103001.length d103002], .box g8 [.slice B103002 t103001.length d103002, .int .i64 0, .int .i64 0, .int .i64 0, .int .i64 0, .bool (((rd_T107 t3.1.f2 5).f1).toList == ([255] : List UInt8))] 67] := HS; have F := HS.boxes; simp only [boxFacts, and_true] at F) | ((with_reducible refine gate_store (p := 45) rfl ?_); refine ev_store rfl 3 1 HS (seg := [.int .i64 t21.1]) rfl rfl rfl rfl rfl rfl (by kernel_rfl) (by simp [wrt]) (by simp [Value.oneCell']) ?_; clear HS; (try clear F); intro w23 HS; replace HS : Hp A6 wt3 _ [.box g2 [.slice none 0 0, .int .i64 0, .int .i64 0, .int .i64 0, .int .i64 0, .bool false] 67, .box g4 [.int .i64 t3.1.f0, .string t3.1.f1, .slice (some ad101999) t3.1.f2.length d4] 107, .own (Zd.slice 9 Zd.string) t103001 [.slice B103002 t103001.length d103002], .box g8 [.slice B103002 t103001.length d103002, .int .i64 t21.1, .int .i64 0, .int .i64 0, .int .i64 0, .bool (((rd_T107 t3.1.f2 5).f1).toList == ([255] : List UInt8))] 67] := HS; have F := HS.boxes; simp only [boxFacts, and_true] at F; obtain ⟨ad26, B26_2, d26_2, hq26, e26_0, e26_1, e26_2, m26_2, y26_2⟩ := at_T107 gb6_0 2 (of_eq_true (eq_true (by decide))) (of_eq_true c25); obtain rfl := Option.some.inj hq26; (try (have e26_0' := e26_0; simp only [Int.toNat_zero, Int.reduceToNat, Int.toNat_natCast, Nat.zero_mul, Nat.one_mul, Nat.zero_add, Nat.add_zero, Addr.add_zero', Addr.add_succ', Nat.reduceMul, Nat.reduceAdd] at e26_0')); (try (have e26_1' := e26_1; simp only [Int.toNat_zero, Int.reduceToNat, Int.toNat_natCast, Nat.zero_mul, Nat.one_mul, Nat.zero_add, Nat.add_zero, Addr.add_zero', Addr.add_succ', Nat.reduceMul, Nat.reduceAdd] at e26_1')); (try (have e26_2' := e26_2; simp only [Int.toNat_zero, Int.reduceToNat, Int.toNat_natCast, Nat.zero_mul, Nat.one_mul, Nat.zero_add, Nat.add_zero, Addr.add_zero', Addr.add_succ', Nat.reduceMul, Nat.reduceAdd] at e26_2')); have e26_0_26 := (hV.keepc HS e26_0); have e26_1_26 := (hV.keepc HS e26_1); have e26_2_26 := (hV.keepc HS e26_2); (try have e26_0'_26 := (hV.keepc HS e26_0')); (try have e26_1'_26 := (hV.keepc HS e26_1')); (try have e26_2'_26 := (hV.keepc HS e26_2'))) | ((with_reducible refine gate_dst (N := 50) rfl ?_); refine ev_call rfl Try.func88 (by kernel_rfl) rfl #[.agg #[.int .i64 ((rd_T107 t3.1.f2 2).f0), .string ((rd_T107 t3.1.f2 2).f1), .slice B26_2 (rd_T107 t3.1.f2 2).f2.length d26_2]] rfl (by simp only [List.map_toArray, List.map_cons, List.map_nil]; rfl) ?_; refine (spec_IntIn.calls ht27.out (hV.ro km107 HS y26_2) m26_2).mono ?_; rintro _ wt27 ⟨rfl, HQ⟩; refine ⟨_, rfl, ?_⟩; replace HS := HS.call HQ; clear HQ; (try clear F); replace HS : Hp A6 wt3 _ [.box g2 [.slice none 0 0, .int .i64 0, .int .i64 0, .int .i64 0, .int .i64 0, .bool false] 67, .box g4 [.int .i64 t3.1.f0, .string t3.1.f1, .slice (some ad101999) t3.1.f2.length d4] 107, .own (Zd.slice 9 Zd.string) t103001 [.slice B103002 t103001.length d103002], .box g8 [.slice B103002 t103001.length d103002, .int .i64 t21.1, .int .i64 0, .int .i64 0, .int .i64 0, .bool (((rd_T107 t3.1.f2 5).f1).toList == ([255] : List UInt8))] 67] := HS; have F := HS.boxes; simp only [boxFacts, and_true] at F) | ((with_reducible refine gate_store (p := 53) rfl ?_); refine ev_store rfl 3 2 HS (seg := [.int .i64 t27.1]) rfl rfl rfl rfl rfl rfl (by kernel_rfl) (by simp [wrt]) (by simp [Value.oneCell']) ?_; clear HS; (try clear F); intro w29 HS; replace HS : Hp A6 wt3 _ [.box g2 [.slice none 0 0, .int .i64 0, .int .i64 0, .int .i64 0, .int .i64 0, .bool false] 67, .box g4 [.int .i64 t3.1.f0, .string t3.1.f1, .slice (some ad101999) t3.1.f2.length d4] 107, .own (Zd.slice 9 Zd.string) t103001 [.slice B103002 t103001.length d103002], .box g8 [.slice B103002 t103001.length d103002, .int .i64 t21.1, .int .i64 t27.1, .int .i64 0, .int .i64 0, .bool (((rd_T107 t3.1.f2 5).f1).toList == ([255] : List UInt8))] 67] := HS; have F := HS.boxes; simp only [boxFacts, and_true] at F; obtain ⟨ad32, B32_2, d32_2, hq32, e32_0, e32_1, e32_2, m32_2, y32_2⟩ := at_T107 gb6_0 3 (of_eq_true (eq_true (by decide))) (of_eq_true c31); obtain rfl := Option.some.inj hq32; (try (have e32_0' := e32_0; simp only [Int.toNat_zero, Int.reduceToNat, Int.toNat_natCast, Nat.zero_mul, Nat.one_mul, Nat.zero_add, Nat.add_zero, Addr.add_zero', Addr.add_succ', Nat.reduceMul, Nat.reduceAdd] at e32_0')); (try (have e32_1' := e32_1; simp only [Int.toNat_zero, Int.reduceToNat, Int.toNat_natCast, Nat.zero_mul, Nat.one_mul, Nat.zero_add, Nat.add_zero, Addr.add_zero', Addr.add_succ', Nat.reduceMul, Nat.reduceAdd] at e32_1')); (try (have e32_2' := e32_2; simp only [Int.toNat_zero, Int.reduceToNat, Int.toNat_natCast, Nat.zero_mul, Nat.one_mul, Nat.zero_add, Nat.add_zero, Addr.add_zero', Addr.add_succ', Nat.reduceMul, Nat.reduceAdd] at e32_2')); have e32_0_32 := (hV.keepc HS e32_0); have e32_1_32 := (hV.keepc HS e32_1); have e32_2_32 := (hV.keepc HS e32_2); (try have e32_0'_32 := (hV.keepc HS e32_0')); (try have e32_1'_32 := (hV.keepc HS e32_1')); (try have e32_2'_32 := (hV.keepc HS e32_2'))) | ((with_reducible refine gate_dst (N := 58) rfl ?_); refine ev_call rfl Try.func88 (by kernel_rfl) rfl #[.agg #[.int .i64 ((rd_T107 t3.1.f2 3).f0), .string ((rd_T107 t3.1.f2 3).f1), .slice B32_2 (rd_T107 t3.1.f2 3).f2.length d32_2]] rfl (by simp only [List.map_toArray, List.map_cons, List.map_nil]; rfl) ?_; refine (spec_IntIn.calls ht33.out (hV.ro km107 HS y32_2) m32_2).mono ?_; rintro _ wt33 ⟨rfl, HQ⟩; refine ⟨_, rfl, ?_⟩; replace HS := HS.call HQ; clear HQ; (try clear F); replace HS : Hp A6 wt3 _ [.box g2 [.slice none 0 0, .int .i64 0, .int .i64 0, .int .i64 0, .int .i64 0, .bool false] 67, .box g4 [.int .i64 t3.1.f0, .string t3.1.f1, .slice (some ad101999) t3.1.f2.length d4] 107, .own (Zd.slice 9 Zd.string) t103001 [.slice B103002 t103001.length d103002], .box g8 [.slice B103002 t103001.length d103002, .int .i64 t21.1, .int .i64 t27.1, .int .i64 0, .int .i64 0, .bool (((rd_T107 t3.1.f2 5).f1).toList == ([255] : List UInt8))] 67] := HS; have F := HS.boxes; simp only [boxFacts, and_true] at F) | ((with_reducible refine gate_store (p := 61) rfl ?_); refine ev_store rfl 3 3 HS (seg := [.int .i64 t33.1]) rfl rfl rfl rfl rfl rfl (by kernel_rfl) (by simp [wrt]) (by simp [Value.oneCell']) ?_; clear HS; (try clear F); intro w35 HS; replace HS : Hp A6 wt3 _ [.box g2 [.slice none 0 0, .int .i64 0, .int .i64 0, .int .i64 0, .int .i64 0, .bool false] 67, .box g4 [.int .i64 t3.1.f0, .string t3.1.f1, .slice (some ad101999) t3.1.f2.length d4] 107, .own (Zd.slice 9 Zd.string) t103001 [.slice B103002 t103001.length d103002], .box g8 [.slice B103002 t103001.length d103002, .int .i64 t21.1, .int .i64 t27.1, .int .i64 t33.1, .int .i64 0, .bool (((rd_T107 t3.1.f2 5).f1).toList == ([255] : List UInt8))] 67] := HS; have F := HS.boxes; simp only [boxFacts, and_true] at F; obtain ⟨ad38, B38_2, d38_2, hq38, e38_0, e38_1, e38_2, m38_2, y38_2⟩ := at_T107 gb6_0 4 (of_eq_true (eq_true (by decide))) (of_eq_true c37); obtain rfl := Option.some.inj hq38; (try (have e38_0' := e38_0; simp only [Int.toNat_zero, Int.reduceToNat, Int.toNat_natCast, Nat.zero_mul, Nat.one_mul, Nat.zero_add, Nat.add_zero, Addr.add_zero', Addr.add_succ', Nat.reduceMul, Nat.reduceAdd] at e38_0')); (try (have e38_1' := e38_1; simp only [Int.toNat_zero, Int.reduceToNat, Int.toNat_natCast, Nat.zero_mul, Nat.one_mul, Nat.zero_add, Nat.add_zero, Addr.add_zero', Addr.add_succ', Nat.reduceMul, Nat.reduceAdd] at e38_1')); (try (have e38_2' := e38_2; simp only [Int.toNat_zero, Int.reduceToNat, Int.toNat_natCast, Nat.zero_mul, Nat.one_mul, Nat.zero_add, Nat.add_zero, Addr.add_zero', Addr.add_succ', Nat.reduceMul, Nat.reduceAdd] at e38_2')); have e38_0_38 := (hV.keepc HS e38_0); have e38_1_38 := (hV.keepc HS e38_1); have e38_2_38 := (hV.keepc HS e38_2); (try have e38_0'_38 := (hV.keepc HS e38_0')); (try have e38_1'_38 := (hV.keepc HS e38_1')); (try have e38_2'_38 := (hV.keepc HS e38_2'))) | ((with_reducible refine gate_dst (N := 66) rfl ?_); refine ev_call rfl Try.func88 (by kernel_rfl) rfl #[.agg #[.int .i64 ((rd_T107 t3.1.f2 4).f0), .string ((rd_T107 t3.1.f2 4).f1), .slice B38_2 (rd_T107 t3.1.f2 4).f2.length d38_2]] rfl (by simp only [List.map_toArray, List.map_cons, List.map_nil]; rfl) ?_; refine (spec_IntIn.calls ht39.out (hV.ro km107 HS y38_2) m38_2).mono ?_; rintro _ wt39 ⟨rfl, HQ⟩; refine ⟨_, rfl, ?_⟩; replace HS := HS.call HQ; clear HQ; (try clear F); replace HS : Hp A6 wt3 _ [.box g2 [.slice none 0 0, .int .i64 0, .int .i64 0, .int .i64 0, .int .i64 0, .bool false] 67, .box g4 [.int .i64 t3.1.f0, .string t3.1.f1, .slice (some ad101999) t3.1.f2.length d4] 107, .own (Zd.slice 9 Zd.string) t103001 [.slice B103002 t103001.length d103002], .box g8 [.slice B103002 t103001.length d103002, .int .i64 t21.1, .int .i64 t27.1, .int .i64 t33.1, .int .i64 0, .bool (((rd_T107 t3.1.f2 5).f1).toList == ([255] : List UInt8))] 67] := HS; have F := HS.boxes; simp only [boxFacts, and_true] at F) | ((with_reducible refine gate_store (p := 69) rfl ?_); refine ev_store rfl 3 4 HS (seg := [.int .i64 t39.1]) rfl rfl rfl rfl rfl rfl (by kernel_rfl) (by simp [wrt]) (by simp [Value.oneCell']) ?_; clear HS; (try clear F); intro w41 HS; replace HS : Hp A6 wt3 _ [.box g2 [.slice none 0 0, .int .i64 0, .int .i64 0, .int .i64 0, .int .i64 0, .bool false] 67, .box g4 [.int .i64 t3.1.f0, .string t3.1.f1, .slice (some ad101999) t3.1.f2.length d4] 107, .own (Zd.slice 9 Zd.string) t103001 [.slice B103002 t103001.length d103002], .box g8 [.slice B103002 t103001.length d103002, .int .i64 t21.1, .int .i64 t27.1, .int .i64 t33.1, .int .i64 t39.1, .bool (((rd_T107 t3.1.f2 5).f1).toList == ([255] : List UInt8))] 67] := HS; have F := HS.boxes; simp only [boxFacts, and_true] at F) | ((with_reducible refine gate_dst (N := 72) rfl ?_); refine ev_call rfl Try.func89 (by kernel_rfl) rfl #[.agg #[.slice B103002 t103001.length d103002, .int .i64 t21.1, .int .i64 t27.1, .int .i64 t33.1, .int .i64 t39.1, .bool (((rd_T107 t3.1.f2 5).f1).toList == ([255] : List UInt8))]] rfl (by simp only [List.map_toArray, List.map_cons, List.map_nil]; rfl) ?_; refine (spec_AskText.calls ht43.out (HS.rd 2 rfl) m103002).mono ?_; rintro _ wt43 ⟨rfl, HQ⟩; refine ⟨_, rfl, ?_⟩; replace HS := HS.call HQ; clear HQ; (try clear F); replace HS : Hp A6 wt3 _ [.box g2 [.slice none 0 0, .int .i64 0, .int .i64 0, .int .i64 0, .int .i64 0, .bool false] 67, .box g4 [.int .i64 t3.1.f0, .string t3.1.f1, .slice (some ad101999) t3.1.f2.length d4] 107, .own (Zd.slice 9 Zd.string) t103001 [.slice B103002 t103001.length d103002], .box g8 [.slice B103002 t103001.length d103002, .int .i64 t21.1, .int .i64 t27.1, .int .i64 t33.1, .int .i64 t39.1, .bool (((rd_T107 t3.1.f2 5).f1).toList == ([255] : List UInt8))] 67] := HS; have F := HS.boxes; simp only [boxFacts, and_true] at F; (try simp only [c45])) | ((with_reducible refine gate_store (p := 2) rfl ?_); refine ev_store rfl 0 0 HS (seg := [.slice none 0 0, .int .i64 0, .int .i64 0, .int .i64 0, .int .i64 0, .bool false]) rfl rfl rfl rfl rfl rfl (by kernel_rfl) (by simp [wrt]) (by simp [Value.oneCell']) ?_; clear HS; (try clear F); intro w51 HS; replace HS : Hp A6 wt3 _ [.box g2 [.slice none 0 0, .int .i64 0, .int .i64 0, .int .i64 0, .int .i64 0, .bool false] 67, .box g4 [.int .i64 t3.1.f0, .string t3.1.f1, .slice (some ad101999) t3.1.f2.length d4] 107, .own (Zd.slice 9 Zd.string) t103001 [.slice B103002 t103001.length d103002], .box g8 [.slice B103002 t103001.length d103002, .int .i64 t21.1, .int .i64 t27.1, .int .i64 t33.1, .int .i64 t39.1, .bool (((rd_T107 t3.1.f2 5).f1).toList == ([255] : List UInt8))] 67] := HS; have F := HS.boxes; simp only [boxFacts, and_true] at F))
       have HS := HB6 _ _ HS (Nat.le_of_ble_eq_true rfl)
       replace HS := HS.nil 9 Zd.string
       exact bodyPost_ret (results_list (rs := [.cell 2 67, .tmp 3]) rfl (by simp) (.cell _ _ _ _ _ rfl (HS.boxAt (i := 0) rfl) Try.underlying67 rfl (by kernel_rfl) (.tmp .nil))) rfl ⟨_, rfl, HS.pick [5] (by decide) (by rfl)⟩
   · replace H := zneg c15 H
     replace c15 := eq_false_of_ne_true c15
     (try simp only [c15, decide_true, decide_false, Bool.not_true, Bool.not_false])
     obtain ⟨rfl, rfl⟩ := zsome2 H
     go_wp2_with (first | ((with_reducible refine gate_store (p := 2) rfl ?_); refine ev_store rfl 0 0 HS (seg := [.slice none 0 0, .int .i64 0, .int .i64 0, .int .i64 0, .int .i64 0, .bool false]) rfl rfl rfl rfl rfl rfl (by kernel_rfl) (by simp [wrt]) (by simp [Value.oneCell']) ?_; clear HS; (try clear F); intro w53 HS; replace HS : Hp A6 wt3 _ [.box g2 [.slice none 0 0, .int .i64 0, .int .i64 0, .int .i64 0, .int .i64 0, .bool false] 67, .box g4 [.int .i64 t3.1.f0, .string t3.1.f1, .slice B4 t3.1.f2.length d4] 107] := HS; have F := HS.boxes; simp only [boxFacts, and_true] at F))
     have HS := HB6 _ _ HS (Nat.le_of_ble_eq_true rfl)
     replace HS := HS.nil 9 Zd.string
     exact bodyPost_ret (results_list (rs := [.cell 2 67, .tmp 3]) rfl (by simp) (.cell _ _ _ _ _ rfl (HS.boxAt (i := 0) rfl) Try.underlying67 rfl (by kernel_rfl) (.tmp .nil))) rfl ⟨_, rfl, HS.pick [3] (by decide) (by rfl)⟩
 · replace H := zneg c14 H
   replace c14 := eq_false_of_ne_true c14
   obtain ⟨rfl, rfl⟩ := zsome2 H
   go_wp2_with (first | ((with_reducible refine gate_dst (N := 2) rfl ?_); refine ev_box rfl HS (by first | (go_simp; done) | (go_simp; rfl)) rfl ?_; clear HS; (try clear F); intro g2 w2 HS; replace HS : Hp noFP w _ [.box g2 [.slice none 0 0, .int .i64 0, .int .i64 0, .int .i64 0, .int .i64 0, .bool false] 67] := HS; have F := HS.boxes; simp only [boxFacts, and_true] at F) | ((with_reducible refine gate_dst (N := 13) rfl ?_); refine ev_call rfl Try.func85 (by kernel_rfl) rfl #[.string a0] rfl (by simp only [List.map_toArray, List.map_cons, List.map_nil]; rfl) ?_; refine (spec_ReadItem.calls ht3.out).mono ?_; rintro _ wt3 ⟨v4, rfl, HQ⟩; refine ⟨_, rfl, ?_⟩; replace HS := HS.call HQ; clear HQ; (try clear F); obtain ⟨B4, d4, rfl, m4⟩ := HS.form 1 rfl; replace HS : Hp noFP w _ [.box g2 [.slice none 0 0, .int .i64 0, .int .i64 0, .int .i64 0, .int .i64 0, .bool false] 67, .own (Zd.slice 107 q107) t3.1.f2 [.slice B4 t3.1.f2.length d4]] := HS; have F := HS.boxes; simp only [boxFacts, and_true] at F; refine HS.lend [0] (by decide) [.box g2 [.slice none 0 0, .int .i64 0, .int .i64 0, .int .i64 0, .int .i64 0, .bool false] 67] rfl (fun A6 HL HD HA HB6 => ?_); have gb6_0 := hide_rd HD 1 rfl (by decide); replace HS := HA; have hV := hide_view A6 wt3; clear HA HD HL; (try clear F); replace HS : Hp A6 wt3 _ [.box g2 [.slice none 0 0, .int .i64 0, .int .i64 0, .int .i64 0, .int .i64 0, .bool false] 67] := HS; have F := HS.boxes; simp only [boxFacts, and_true] at F) | ((with_reducible refine gate_dst (N := 4) rfl ?_); refine ev_box rfl HS (by first | (go_simp; done) | (go_simp; rfl)) rfl ?_; clear HS; (try clear F); intro g4 w4 HS; replace HS : Hp A6 wt3 _ [.box g2 [.slice none 0 0, .int .i64 0, .int .i64 0, .int .i64 0, .int .i64 0, .bool false] 67, .box g4 [.int .i64 0, .string (⟨#[]⟩ : ByteArray), .slice none 0 0] 107] := HS; have F := HS.boxes; simp only [boxFacts, and_true] at F) | ((with_reducible refine gate_store (p := 4) rfl ?_); refine ev_store rfl 1 0 HS (seg := [.int .i64 t3.1.f0, .string t3.1.f1, .slice B4 t3.1.f2.length d4]) rfl rfl rfl rfl rfl rfl (by kernel_rfl) (by simp [wrt]) (by simp [Value.oneCell']) ?_; clear HS; (try clear F); intro w10 HS; replace HS : Hp A6 wt3 _ [.box g2 [.slice none 0 0, .int .i64 0, .int .i64 0, .int .i64 0, .int .i64 0, .bool false] 67, .box g4 [.int .i64 t3.1.f0, .string t3.1.f1, .slice B4 t3.1.f2.length d4] 107] := HS; have F := HS.boxes; simp only [boxFacts, and_true] at F) | ((with_reducible refine gate_dst (N := 18) rfl ?_); refine ev_call rfl Try.func86 (by kernel_rfl) rfl #[.agg #[.int .i64 t3.1.f0, .string t3.1.f1, .slice B4 t3.1.f2.length d4], .int .i64 6] rfl (by simp only [List.map_toArray, List.map_cons, List.map_nil]; rfl) ?_; refine (spec_l09Kids.calls ht12.out (hV.ro km107 HS gb6_0) m4).mono ?_; rintro _ wt12 ⟨rfl, HQ⟩; refine ⟨_, rfl, ?_⟩; replace HS := HS.call HQ; clear HQ; (try clear F); replace HS : Hp A6 wt3 _ [.box g2 [.slice none 0 0, .int .i64 0, .int .i64 0, .int .i64 0, .int .i64 0, .bool false] 67, .box g4 [.int .i64 t3.1.f0, .string t3.1.f1, .slice B4 t3.1.f2.length d4] 107] := HS; have F := HS.boxes; simp only [boxFacts, and_true] at F; (try simp only [c14])) | ((with_reducible refine gate_store (p := 2) rfl ?_); refine ev_store rfl 0 0 HS (seg := [.slice none 0 0, .int .i64 0, .int .i64 0, .int .i64 0, .int .i64 0, .bool false]) rfl rfl rfl rfl rfl rfl (by kernel_rfl) (by simp [wrt]) (by simp [Value.oneCell']) ?_; clear HS; (try clear F); intro w55 HS; replace HS : Hp A6 wt3 _ [.box g2 [.slice none 0 0, .int .i64 0, .int .i64 0, .int .i64 0, .int .i64 0, .bool false] 67, .box g4 [.int .i64 t3.1.f0, .string t3.1.f1, .slice B4 t3.1.f2.length d4] 107] := HS; have F := HS.boxes; simp only [boxFacts, and_true] at F))
   have HS := HB6 _ _ HS (Nat.le_of_ble_eq_true rfl)
   replace HS := HS.nil 9 Zd.string
   exact bodyPost_ret (results_list (rs := [.cell 2 67, .tmp 3]) rfl (by simp) (.cell _ _ _ _ _ rfl (HS.boxAt (i := 0) rfl) Try.underlying67 rfl (by kernel_rfl) (.tmp .nil))) rfl ⟨_, rfl, HS.pick [3] (by decide) (by rfl)⟩
/-! ### impl_readLength: function 170 -/
def impl_readLength.l0 : Nat → Int → Int → ByteArray → ByteArray → Option (Int × ByteArray × Bool)
  | 0, _, _, _, _ => none
  | k + 1, x28, x29, a0, y15 => (if x29 < (y15.size : Int) then (if 0 ≤ x29 then (if x29 < (y15.size : Int) then (impl_readLength.l0 k (Go.bits .or .i64 (wrap64 (x28 * 256)) (wrap64 (rd (bytesOf y15) x29))) (wrap64 (x29 + 1)) a0 y15) else none) else none) else (if 0 ≤ (wrap64 (1 + (wrap64 ((wrap64 (bt a0 0)) - 128)))) then (some (x28, (a0.extract ((wrap64 (1 + (wrap64 ((wrap64 (bt a0 0)) - 128))))).toNat a0.size), true)) else none))
def impl_readLength.f (k : Nat) (a0 : ByteArray) : Option (Int × ByteArray × Bool) := (if a0.toList = ([] : List UInt8) then (some (0, (⟨#[]⟩ : ByteArray), false)) else (if 0 < (a0.size : Int) then (if (bt a0 0) < 128 then (if 1 ≤ (a0.size : Int) then (some ((wrap64 (bt a0 0)), (a0.extract 1 a0.size), true)) else none) else (if 4 < (wrap64 ((wrap64 (bt a0 0)) - 128)) then (some (0, (⟨#[]⟩ : ByteArray), false)) else (if (a0.size : Int) < (wrap64 (1 + (wrap64 ((wrap64 (bt a0 0)) - 128)))) then (some (0, (⟨#[]⟩ : ByteArray), false)) else (if 1 ≤ (wrap64 (1 + (wrap64 ((wrap64 (bt a0 0)) - 128)))) then (if (wrap64 (1 + (wrap64 ((wrap64 (bt a0 0)) - 128)))) ≤ (a0.size : Int) then (lets (a0.extract 1 ((wrap64 (1 + (wrap64 ((wrap64 (bt a0 0)) - 128))))).toNat) fun y15 => (if y15.size ≤ 9223372036854775807 then (impl_readLength.l0 k 0 0 a0 y15) else none)) else none) else none)))) else none))
def impl_readLength.T4 : Bool × List (List Nat × List Nat) := (true, [([], []), ([0], [0]), ([1], [1]), ([], []), ([3], [3]), ([2, 0, 1, 2], [2]), ([4, 5, 0, 1, 2, 3, 4, 5], [4]), ([6, 0, 1, 2, 3, 4, 5, 6], [])])
theorem impl_readLength.tT4 : rtab .any (opsOf Try.f170 4) = impl_readLength.T4 := by kernel_rfl
def impl_readLength.T14 : Bool × List (List Nat × List Nat) := (true, [([], []), ([], []), ([], []), ([2], [2]), ([1, 3], [1, 3]), ([0, 0], [0]), ([4, 5, 0, 1, 2, 3, 4, 5], [4]), ([6, 0, 1, 2, 3, 4, 5, 6], [])])
theorem impl_readLength.tT14 : rtab .any (opsOf Try.f170 14) = impl_readLength.T14 := by kernel_rfl
set_option maxHeartbeats 16000000 in
theorem impl_readLength.calls {k : Nat} {a0 : ByteArray} {r1 : Int} {r2 : ByteArray} {r3 : Bool} {w : World} (h : impl_readLength.f k a0 = some (r1, r2, r3)) :
    Calls Try.prog 170 #[.string a0] w (fun e w' => e = .returned (.tuple #[.int .i64 r1, .string r2, .bool r3]) ∧ Hp noFP w w' []) := by
 have HS := Hp.start w
 have H := Aside0.mk h
 clear h
 unfold impl_readLength.f at H
 go_enter Try.func170, Try.ntmps170
 by_cases c1 : a0.toList = ([] : List UInt8)
 · replace H := zpos c1 H
   have c1a := beq_iff_eq.mpr c1
   have c1b := bne_eq_false_iff_eq.mpr c1
   have c1e := List.isEmpty_iff.mpr c1
   clear c1
   obtain ⟨rfl, rfl, rfl⟩ := zsome3 H
   go_wp2
   exact bodyPost_ret (results_list (rs := [.tmp 2, .tmp 3, .tmp 4]) rfl (by simp) (.tmp (.tmp (.tmp .nil)))) rfl ⟨rfl, HS.pick [] (by decide) (by rfl)⟩
 · replace H := zneg c1 H
   have c1a := beq_eq_false_iff_ne.mpr c1
   have c1b := bne_iff_ne.mpr c1
   have c1e := List.isEmpty_eq_false_iff.mpr c1
   clear c1
   by_cases c2 : 0 < (a0.size : Int)
   case neg => exact zno c2 H
   replace H := zpos c2 H
   replace c2 := eq_true c2
   have c2n : (0 < a0.size) = True := eq_true (by have := of_eq_true c2; omega)
   have hx3 : ∀ h : 0 < a0.size, ((a0[0]'h).toNat : Int) = bt a0 0 := bt_at a0 0
   have hz4 : 0 < a0.size := (by have := of_eq_true c2; omega)
   by_cases c5 : (bt a0 0) < 128
   · replace H := zpos c5 H
     replace c5 := eq_true c5
     (try go_wp2)
     have hx101001 : ∀ h : 0 < a0.size, ((a0[0]'h).toNat : Int) = bt a0 0 := bt_at a0 0
     have hz101002 : 0 < a0.size := (by have := of_eq_true c2; omega)
     by_cases c104001 : 1 ≤ (a0.size : Int)
     case neg => exact zno c104001 H
     replace H := zpos c104001 H
     replace c104001 := eq_true c104001
     refine dr_start [] HS #[false, false, false, false, false, false, false, false] (by kernel_rfl) rfl rfl impl_readLength.tT4 (fun w7 HT HS HH => ?_)
     (try clear F)
     refine drq_of [(0, some 14), (1, some 15), (2, some 16), (3, some 17)] ?_
     repeat (first | (refine drq_pure HT (v := ?_) (a' := ?_) rfl rfl (by kernel_rfl) (fun _ _ _ h => h) (.inl ⟨by rfl, ?_⟩) ?_ ?_; rotate_left; (intro w'; go_simp; with_reducible rfl); rotate_left; (simp only [Act.put, List.setIfInBounds_toArray, List.set_cons_zero, List.set_cons_succ, i64_w, i32_w]; rfl)))
     refine drq_end ?_
     refine dr_pure 4 (some 18) HT (v := .string (a0.extract 1 a0.size)) (a' := ?_) rfl rfl (by kernel_rfl) (fun _ _ _ h => h) (.inl ⟨by rfl, fun w' => (run_cut rfl rfl Try.underlying9 (.inr ⟨_, _, rfl, rfl, of_eq_true (eq_true (by decide : (0:Int) ≤ 1))⟩) (.inl ⟨rfl, rfl⟩) (by have := of_eq_true (eq_true (by decide : (0:Int) ≤ 1)); have := of_eq_true c104001; have := of_eq_true (eq_true (Int.le_refl (a0.size : Int))); omega) (by have := of_eq_true (eq_true (by decide : (0:Int) ≤ 1)); have := of_eq_true c104001; have := of_eq_true (eq_true (Int.le_refl (a0.size : Int))); omega))⟩) ?_ ?_
     rotate_left
     · simp only [Act.put, List.setIfInBounds_toArray, List.set_cons_zero, List.set_cons_succ, i64_w, i32_w]; rfl
     refine drq_of [(5, some 2), (6, some 3), (7, some 4)] ?_
     repeat (first | (refine drq_pure HT (v := ?_) (a' := ?_) rfl rfl (by kernel_rfl) (fun _ _ _ h => h) (.inl ⟨by rfl, ?_⟩) ?_ ?_; rotate_left; (intro w'; go_simp; with_reducible rfl); rotate_left; (simp only [Act.put, List.setIfInBounds_toArray, List.set_cons_zero, List.set_cons_succ, i64_w, i32_w]; rfl)))
     refine drq_end ?_
     refine done_ (done_of HT.out (by kernel_rfl)) ?_
     obtain ⟨rfl, rfl, rfl⟩ := zsome3 H
     go_wp2
     exact bodyPost_ret (results_list (rs := [.tmp 2, .tmp 3, .tmp 4]) rfl (by simp) (.tmp (.tmp (.tmp .nil)))) rfl ⟨rfl, HS.pick [] (by decide) (by rfl)⟩
   · replace H := zneg c5 H
     replace c5 := eq_false c5
     have hx9 : ∀ h : 0 < a0.size, ((a0[0]'h).toNat : Int) = bt a0 0 := bt_at a0 0
     have hz10 : 0 < a0.size := (by have := of_eq_true c2; omega)
     by_cases c11 : 4 < (wrap64 ((wrap64 (bt a0 0)) - 128))
     · replace H := zpos c11 H
       replace c11 := eq_true c11
       obtain ⟨rfl, rfl, rfl⟩ := zsome3 H
       go_wp2
       exact bodyPost_ret (results_list (rs := [.tmp 2, .tmp 3, .tmp 4]) rfl (by simp) (.tmp (.tmp (.tmp .nil)))) rfl ⟨rfl, HS.pick [] (by decide) (by rfl)⟩
     · replace H := zneg c11 H
       replace c11 := eq_false c11
       by_cases c12 : (a0.size : Int) < (wrap64 (1 + (wrap64 ((wrap64 (bt a0 0)) - 128))))
       · replace H := zpos c12 H
         replace c12 := eq_true c12
         obtain ⟨rfl, rfl, rfl⟩ := zsome3 H
         go_wp2
         exact bodyPost_ret (results_list (rs := [.tmp 2, .tmp 3, .tmp 4]) rfl (by simp) (.tmp (.tmp (.tmp .nil)))) rfl ⟨rfl, HS.pick [] (by decide) (by rfl)⟩
       · replace H := zneg c12 H
         replace c12 := eq_false c12
         by_cases c13 : 1 ≤ (wrap64 (1 + (wrap64 ((wrap64 (bt a0 0)) - 128))))
         case neg => exact zno c13 H
         replace H := zpos c13 H
         replace c13 := eq_true c13
         by_cases c14 : (wrap64 (1 + (wrap64 ((wrap64 (bt a0 0)) - 128)))) ≤ (a0.size : Int)
         case neg => exact zno c14 H
         replace H := zpos c14 H
         replace c14 := eq_true c14
         replace H := zlets H; obtain ⟨y15, e_y15, H⟩ := H
         by_cases c16 : y15.size ≤ 9223372036854775807
         case neg => exact zno c16 H
         replace H := zpos c16 H
         replace c16 := eq_true c16
         go_wp2_with (first | ((with_reducible refine gate_dst (N := 35) rfl ?_); refine ev_val rfl (run_cut rfl rfl Try.underlying9 (.inr ⟨_, _, rfl, rfl, of_eq_true (eq_true (by decide : (0:Int) ≤ 1))⟩) (.inr ⟨_, _, rfl, rfl, by have := of_eq_true (eq_true (by decide : (0:Int) ≤ 1)); have := of_eq_true c13; have := of_eq_true c14; omega⟩) (by have := of_eq_true (eq_true (by decide : (0:Int) ≤ 1)); have := of_eq_true c13; have := of_eq_true c14; omega) (by have := of_eq_true (eq_true (by decide : (0:Int) ≤ 1)); have := of_eq_true c13; have := of_eq_true c14; omega)) ?_) | ((with_reducible refine gate_dst (N := 36) rfl ?_); refine ev_bytes rfl HS rfl (s := y15) (by rw [e_y15.out]; rfl) Try.underlying9 Try.underlying162 Try.underlying5 (of_eq_true c16) ?_; clear HS; (try clear F); intro v15 w15 HS; obtain ⟨B15, d15, rfl, m15⟩ := HS.vformb 0 rfl; replace HS : Hp noFP w _ [.own (Zd.view 5 (Zd.int .u8)) (bytesOf y15) [.slice B15 y15.size d15]] := HS))
         go_loopg [6, 38] k (fun kq v_6 v_38 w' => ∃ (x28 : Int) (x29 : Int), v_6 = .int .i64 x28 ∧ v_38 = .int .i64 x29 ∧ Aside0 (impl_readLength.l0 kq x28 x29 a0 y15 = some (r1, r2, r3)) ∧ Aside0 (kq ≤ k) ∧ Hp noFP w w' [.own (Zd.view 5 (Zd.int .u8)) (bytesOf y15) [.slice B15 y15.size d15]])
         case atStart => exact ⟨_, _, rfl, rfl, H, ⟨Nat.le_refl _⟩, HS⟩
         case round =>
          clear HS H; (try clear F)
          obtain ⟨x28, x29, rfl, rfl, H, HKk27, HS⟩ := hrel
          cases gk with
          | zero => exact absurd H.out (by simp [impl_readLength.l0])
          | succ k27 =>
           simp only [impl_readLength.l0] at H
           by_cases c31 : x29 < (y15.size : Int)
           · replace H := zpos c31 H
             replace c31 := eq_true c31
             by_cases c32 : 0 ≤ x29
             case neg => exact zno c32 H
             replace H := zpos c32 H
             replace c32 := eq_true c32
             by_cases c33 : x29 < (y15.size : Int)
             case neg => exact zno c33 H
             replace H := zpos c33 H
             replace c33 := eq_true c33
             obtain ⟨ad34, rfl, e34_0⟩ := Kd.at_int (HS.vrd 0 rfl) x29 (of_eq_true c32) (of_eq_true c33)
             go_wp2
             go_roundg k27
             case measure => have := HKk27.out; omega
             case rel => exact ⟨_, _, rfl, rfl, H, ⟨by have := HKk27.out; omega⟩, HS.pick [0] (by decide) (by rfl)⟩
           · replace H := zneg c31 H
             replace c31 := eq_false c31
             (try go_wp2)
             by_cases c204001 : 0 ≤ (wrap64 (1 + (wrap64 ((wrap64 (bt a0 0)) - 128))))
             case neg => exact zno c204001 H
             replace H := zpos c204001 H
             replace c204001 := eq_true c204001
             refine dr_start [] HS #[false, false, false, false, false, false, false, false] (by kernel_rfl) rfl rfl impl_readLength.tT14 (fun w36 HT HS HH => ?_)
             (try clear F)
             refine drq_of [(0, some 48), (1, some 49), (2, some 50), (3, some 51)] ?_
             repeat (first | (refine drq_pure HT (v := ?_) (a' := ?_) rfl rfl (by kernel_rfl) (fun _ _ _ h => h) (.inl ⟨by rfl, ?_⟩) ?_ ?_; rotate_left; (intro w'; go_simp; with_reducible rfl); rotate_left; (simp only [Act.put, List.setIfInBounds_toArray, List.set_cons_zero, List.set_cons_succ, i64_w, i32_w]; rfl)))
             refine drq_end ?_
             refine dr_pure 4 (some 52) HT (v := .string (a0.extract ((wrap64 (1 + (wrap64 ((wrap64 (bt a0 0)) - 128))))).toNat a0.size)) (a' := ?_) rfl rfl (by kernel_rfl) (fun _ _ _ h => h) (.inl ⟨by rfl, fun w' => (run_cut rfl rfl Try.underlying9 (.inr ⟨_, _, rfl, rfl, of_eq_true c204001⟩) (.inl ⟨rfl, rfl⟩) (by have := of_eq_true c204001; have := of_eq_true c14; have := of_eq_true (eq_true (Int.le_refl (a0.size : Int))); omega) (by have := of_eq_true c204001; have := of_eq_true c14; have := of_eq_true (eq_true (Int.le_refl (a0.size : Int))); omega))⟩) ?_ ?_
             rotate_left
             · simp only [Act.put, List.setIfInBounds_toArray, List.set_cons_zero, List.set_cons_succ, i64_w, i32_w]; rfl
             refine drq_of [(5, some 2), (6, some 3), (7, some 4)] ?_
             repeat (first | (refine drq_pure HT (v := ?_) (a' := ?_) rfl rfl (by kernel_rfl) (fun _ _ _ h => h) (.inl ⟨by rfl, ?_⟩) ?_ ?_; rotate_left; (intro w'; go_simp; with_reducible rfl); rotate_left; (simp only [Act.put, List.setIfInBounds_toArray, List.set_cons_zero, List.set_cons_succ, i64_w, i32_w]; rfl)))
             refine drq_end ?_
             refine done_ (done_of HT.out (by kernel_rfl)) ?_
             obtain ⟨rfl, rfl, rfl⟩ := zsome3 H
             go_wp2
             exact bodyPost_ret (results_list (rs := [.tmp 2, .tmp 3, .tmp 4]) rfl (by simp) (.tmp (.tmp (.tmp .nil)))) rfl ⟨rfl, HS.pick [] (by decide) (by rfl)⟩
/-! ### impl_readItem: function 144 -/
mutual
def impl_readItem.l0 : Nat → (List S107) → ByteArray → ByteArray → Int → Int × ByteArray × Bool → Option (S107 × ByteArray × Bool)
  | 0, _, _, _, _, _ => none
  | k + 1, l53, x55, a0, a1, t17 => (if x55.toList = ([] : List UInt8) then (some ((⟨(wrap64 (bt a0 0)), (⟨#[]⟩ : ByteArray), l53⟩ : S107), (t17.2.1.extract (t17.1).toNat t17.2.1.size), true)) else ((impl_readItem.f k x55 (wrap64 (a1 + 1))).bind fun t60 => (if t60.2.2 = true then (if l53.length + 1 ≤ 2932031007402 then (lets (l53 ++ ([t60.1] : List S107)) fun y71 => (impl_readItem.l0 k y71 t60.2.1 a0 a1 t17)) else none) else (some ((⟨0, (⟨#[]⟩ : ByteArray), ([] : List S107)⟩ : S107), (⟨#[]⟩ : ByteArray), false)))))
def impl_readItem.f : Nat → ByteArray → Int → Option (S107 × ByteArray × Bool)
  | 0, _, _ => none
  | k + 1, a0, a1 => (if a0.toList = ([] : List UInt8) then (some ((⟨0, (⟨#[]⟩ : ByteArray), ([] : List S107)⟩ : S107), (⟨#[]⟩ : ByteArray), false)) else (if 6 < a1 then (some ((⟨0, (⟨#[]⟩ : ByteArray), ([] : List S107)⟩ : S107), (⟨#[]⟩ : ByteArray), false)) else (if 0 < (a0.size : Int) then (if 1 ≤ (a0.size : Int) then ((impl_readLength.f k (a0.extract 1 a0.size)).bind fun t17 => (if t17.2.2 = true then (if (t17.2.1.size : Int) < t17.1 then (some ((⟨0, (⟨#[]⟩ : ByteArray), ([] : List S107)⟩ : S107), (⟨#[]⟩ : ByteArray), false)) else (if 0 ≤ t17.1 then (if t17.1 ≤ (t17.2.1.size : Int) then (if (wrap64 (bt a0 0)) = 48 then (impl_readItem.l0 k [] (t17.2.1.extract 0 (t17.1).toNat) a0 a1 t17) else (some ((⟨(wrap64 (bt a0 0)), (t17.2.1.extract 0 (t17.1).toNat), ([] : List S107)⟩ : S107), (t17.2.1.extract (t17.1).toNat t17.2.1.size), true))) else none) else none)) else (some ((⟨0, (⟨#[]⟩ : ByteArray), ([] : List S107)⟩ : S107), (⟨#[]⟩ : ByteArray), false)))) else none) else none)))
end
def impl_readItem.T7 : Bool × List (List Nat × List Nat) := (true, [([], []), ([], []), ([0, 1], [0, 1]), ([], []), ([], []), ([3, 4], [3, 4]), ([2, 0, 1, 2], [2]), ([5, 6, 0, 1, 2, 3, 4, 5, 6], [0, 3, 5])])
theorem impl_readItem.tT7 : rtab .any (opsOf Try.f144 7) = impl_readItem.T7 := by kernel_rfl
set_option maxHeartbeats 16000000 in
theorem impl_readItem.calls_ (K : Nat) : ∀ {k : Nat} (hK : k ≤ K) {a0 : ByteArray} {a1 : Int} {r1 : S107} {r2 : ByteArray} {r3 : Bool} {w : World} (h : impl_readItem.f k a0 a1 = some (r1, r2, r3)),
    Calls Try.prog 144 #[.string a0, .int .i64 a1] w (fun e w' => ∃ v0_ : Value, e = .returned (.tuple #[.agg #[.int .i64 r1.f0, .string r1.f1, v0_], .string r2, .bool r3]) ∧ Hp noFP w w' [.own (Zd.slice 107 q107) r1.f2 [v0_]]) := by
  induction K with
  | zero =>
    intro k hK a0 a1 r1 r2 r3 w h
    obtain rfl : k = 0 := by omega
    exact absurd h (by simp [impl_readItem.f])
  | succ K IH =>
    intro k hK a0 a1 r1 r2 r3 w h
    cases k with
    | zero => exact absurd h (by simp [impl_readItem.f])
    | succ k =>
    have HK0 : Aside0 (k ≤ K) := ⟨by omega⟩
    clear hK
    have HS := Hp.start w
    have H := Aside0.mk h
    clear h
    simp only [impl_readItem.f] at H
    go_enter Try.func144, Try.ntmps144
    by_cases c3 : a0.toList = ([] : List UInt8)
    · replace H := zpos c3 H
      have c3a := beq_iff_eq.mpr c3
      have c3b := bne_eq_false_iff_eq.mpr c3
      have c3e := List.isEmpty_iff.mpr c3
      clear c3
      obtain ⟨rfl, rfl, rfl⟩ := zsome3 H
      go_wp2_with (first | ((with_reducible refine gate_dst (N := 4) rfl ?_); refine ev_box rfl HS (by first | (go_simp; done) | (go_simp; rfl)) rfl ?_; clear HS; (try clear F); intro g4 w4 HS; replace HS : Hp noFP w _ [.box g4 [.int .i64 0, .string (⟨#[]⟩ : ByteArray), .slice none 0 0] 107] := HS; have F := HS.boxes; simp only [boxFacts, and_true] at F) | ((with_reducible refine gate_store (p := 4) rfl ?_); refine ev_store rfl 0 0 HS (seg := [.int .i64 0, .string (⟨#[]⟩ : ByteArray), .slice none 0 0]) rfl rfl rfl rfl rfl rfl (by kernel_rfl) (by simp [wrt]) (by simp [Value.oneCell']) ?_; clear HS; (try clear F); intro w4 HS; replace HS : Hp noFP w _ [.box g4 [.int .i64 0, .string (⟨#[]⟩ : ByteArray), .slice none 0 0] 107] := HS; have F := HS.boxes; simp only [boxFacts, and_true] at F))
      replace HS := HS.nil 107 q107
      exact bodyPost_ret (results_list (rs := [.cell 4 107, .tmp 5, .tmp 6]) rfl (by simp) (.cell _ _ _ _ _ rfl (HS.boxAt (i := 0) rfl) Try.underlying107 rfl (by kernel_rfl) (.tmp (.tmp .nil)))) rfl ⟨_, rfl, HS.pick [1] (by decide) (by rfl)⟩
    · replace H := zneg c3 H
      have c3a := beq_eq_false_iff_ne.mpr c3
      have c3b := bne_iff_ne.mpr c3
      have c3e := List.isEmpty_eq_false_iff.mpr c3
      clear c3
      go_upto_if 20 with (first | ((with_reducible refine gate_dst (N := 4) rfl ?_); refine ev_box rfl HS (by first | (go_simp; done) | (go_simp; rfl)) rfl ?_; clear HS; (try clear F); intro g4 w4 HS; replace HS : Hp noFP w _ [.box g4 [.int .i64 0, .string (⟨#[]⟩ : ByteArray), .slice none 0 0] 107] := HS; have F := HS.boxes; simp only [boxFacts, and_true] at F))
      by_cases c6 : 6 < a1
      · replace H := zpos c6 H
        replace c6 := eq_true c6
        (try simp only [c6, decide_true, decide_false, Bool.not_true, Bool.not_false])
        obtain ⟨rfl, rfl, rfl⟩ := zsome3 H
        go_wp2_with (first | ((with_reducible refine gate_store (p := 4) rfl ?_); refine ev_store rfl 0 0 HS (seg := [.int .i64 0, .string (⟨#[]⟩ : ByteArray), .slice none 0 0]) rfl rfl rfl rfl rfl rfl (by kernel_rfl) (by simp [wrt]) (by simp [Value.oneCell']) ?_; clear HS; (try clear F); intro w7 HS; replace HS : Hp noFP w _ [.box g4 [.int .i64 0, .string (⟨#[]⟩ : ByteArray), .slice none 0 0] 107] := HS; have F := HS.boxes; simp only [boxFacts, and_true] at F))
        replace HS := HS.nil 107 q107
        exact bodyPost_ret (results_list (rs := [.cell 4 107, .tmp 5, .tmp 6]) rfl (by simp) (.cell _ _ _ _ _ rfl (HS.boxAt (i := 0) rfl) Try.underlying107 rfl (by kernel_rfl) (.tmp (.tmp .nil)))) rfl ⟨_, rfl, HS.pick [1] (by decide) (by rfl)⟩
      · replace H := zneg c6 H
        replace c6 := eq_false c6
        (try simp only [c6, decide_true, decide_false, Bool.not_true, Bool.not_false])
        by_cases c9 : 0 < (a0.size : Int)
        case neg => exact zno c9 H
        replace H := zpos c9 H
        replace c9 := eq_true c9
        have c9n : (0 < a0.size) = True := eq_true (by have := of_eq_true c9; omega)
        have hx10 : ∀ h : 0 < a0.size, ((a0[0]'h).toNat : Int) = bt a0 0 := bt_at a0 0
        have hz11 : 0 < a0.size := (by have := of_eq_true c9; omega)
        by_cases c16 : 1 ≤ (a0.size : Int)
        case neg => exact zno c16 H
        replace H := zpos c16 H
        replace c16 := eq_true c16
        replace H := zbind H; obtain ⟨t17, ht17, H⟩ := H
        by_cases c19 : t17.2.2 = true
        · replace H := zpos c19 H
          go_upto_if 40 with (first | ((with_reducible refine gate_dst (N := 7) rfl ?_); refine ev_box rfl HS (by first | (go_simp; done) | (go_simp; rfl)) rfl ?_; clear HS; (try clear F); intro g7 w7 HS; replace HS : Hp noFP w _ [.box g4 [.int .i64 0, .string (⟨#[]⟩ : ByteArray), .slice none 0 0] 107, .box g7 [.int .i64 0, .string (⟨#[]⟩ : ByteArray), .slice none 0 0] 107] := HS; have F := HS.boxes; simp only [boxFacts, and_true] at F) | ((with_reducible refine gate_store (p := 7) rfl ?_); refine ev_store rfl 1 0 HS (seg := [.int .i64 (wrap64 (bt a0 0)), .string (⟨#[]⟩ : ByteArray), .slice none 0 0]) rfl rfl rfl rfl rfl rfl (by kernel_rfl) (by simp [wrt]) (by simp [Value.oneCell']) ?_; clear HS; (try clear F); intro w14 HS; replace HS : Hp noFP w _ [.box g4 [.int .i64 0, .string (⟨#[]⟩ : ByteArray), .slice none 0 0] 107, .box g7 [.int .i64 (wrap64 (bt a0 0)), .string (⟨#[]⟩ : ByteArray), .slice none 0 0] 107] := HS; have F := HS.boxes; simp only [boxFacts, and_true] at F) | ((with_reducible refine gate_dst (N := 28) rfl ?_); refine ev_val rfl (run_cut rfl rfl Try.underlying9 (.inr ⟨_, _, rfl, rfl, of_eq_true (eq_true (by decide : (0:Int) ≤ 1))⟩) (.inl ⟨rfl, rfl⟩) (by have := of_eq_true (eq_true (by decide : (0:Int) ≤ 1)); have := of_eq_true c16; have := of_eq_true (eq_true (Int.le_refl (a0.size : Int))); omega) (by have := of_eq_true (eq_true (by decide : (0:Int) ≤ 1)); have := of_eq_true c16; have := of_eq_true (eq_true (Int.le_refl (a0.size : Int))); omega)) ?_) | ((with_reducible refine gate_dst (N := 29) rfl ?_); refine ev_call rfl Try.func170 (by kernel_rfl) rfl #[.string (a0.extract 1 a0.size)] rfl (by simp only [List.map_toArray, List.map_cons, List.map_nil]; rfl) ?_; refine (impl_readLength.calls ht17.out).mono ?_; rintro _ wt17 ⟨rfl, HQ⟩; refine ⟨_, rfl, ?_⟩; replace HS := HS.call HQ; clear HQ; (try clear F); replace HS : Hp noFP w _ [.box g4 [.int .i64 0, .string (⟨#[]⟩ : ByteArray), .slice none 0 0] 107, .box g7 [.int .i64 (wrap64 (bt a0 0)), .string (⟨#[]⟩ : ByteArray), .slice none 0 0] 107] := HS; have F := HS.boxes; simp only [boxFacts, and_true] at F; (try simp only [c19])))
          by_cases c20 : (t17.2.1.size : Int) < t17.1
          · replace H := zpos c20 H
            replace c20 := eq_true c20
            (try simp only [c20, decide_true, decide_false, Bool.not_true, Bool.not_false])
            obtain ⟨rfl, rfl, rfl⟩ := zsome3 H
            go_wp2_with (first | ((with_reducible refine gate_store (p := 4) rfl ?_); refine ev_store rfl 0 0 HS (seg := [.int .i64 0, .string (⟨#[]⟩ : ByteArray), .slice none 0 0]) rfl rfl rfl rfl rfl rfl (by kernel_rfl) (by simp [wrt]) (by simp [Value.oneCell']) ?_; clear HS; (try clear F); intro w21 HS; replace HS : Hp noFP w _ [.box g4 [.int .i64 0, .string (⟨#[]⟩ : ByteArray), .slice none 0 0] 107, .box g7 [.int .i64 (wrap64 (bt a0 0)), .string (⟨#[]⟩ : ByteArray), .slice none 0 0] 107] := HS; have F := HS.boxes; simp only [boxFacts, and_true] at F))
            replace HS := HS.nil 107 q107
            exact bodyPost_ret (results_list (rs := [.cell 4 107, .tmp 5, .tmp 6]) rfl (by simp) (.cell _ _ _ _ _ rfl (HS.boxAt (i := 0) rfl) Try.underlying107 rfl (by kernel_rfl) (.tmp (.tmp .nil)))) rfl ⟨_, rfl, HS.pick [2] (by decide) (by rfl)⟩
          · replace H := zneg c20 H
            replace c20 := eq_false c20
            (try simp only [c20, decide_true, decide_false, Bool.not_true, Bool.not_false])
            (try go_wp2)
            by_cases c102001 : 0 ≤ t17.1
            case neg => exact zno c102001 H
            replace H := zpos c102001 H
            replace c102001 := eq_true c102001
            by_cases c102002 : t17.1 ≤ (t17.2.1.size : Int)
            case neg => exact zno c102002 H
            replace H := zpos c102002 H
            replace c102002 := eq_true c102002
            refine dr_start [] HS #[false, false, false, false, false, false, false, false] (by kernel_rfl) rfl rfl impl_readItem.tT7 (fun w24 HT HS HH => ?_)
            (try clear F)
            refine drq_of [(0, some 42), (1, some 43)] ?_
            repeat (first | (refine drq_pure HT (v := ?_) (a' := ?_) rfl rfl (by kernel_rfl) (fun _ _ _ h => h) (.inl ⟨by rfl, ?_⟩) ?_ ?_; rotate_left; (intro w'; go_simp; with_reducible rfl); rotate_left; (simp only [Act.put, List.setIfInBounds_toArray, List.set_cons_zero, List.set_cons_succ, i64_w, i32_w]; rfl)))
            refine drq_end ?_
            refine dr_pure 2 (some 44) HT (v := .string (t17.2.1.extract 0 (t17.1).toNat)) (a' := ?_) rfl rfl (by kernel_rfl) (fun _ _ _ h => h) (.inl ⟨by rfl, fun w' => (run_cut rfl rfl Try.underlying9 (.inl ⟨rfl, rfl⟩) (.inr ⟨_, _, rfl, rfl, by have := of_eq_true (eq_true (by decide : (0:Int) ≤ 0)); have := of_eq_true c102001; have := of_eq_true c102002; omega⟩) (by have := of_eq_true (eq_true (by decide : (0:Int) ≤ 0)); have := of_eq_true c102001; have := of_eq_true c102002; omega) (by have := of_eq_true (eq_true (by decide : (0:Int) ≤ 0)); have := of_eq_true c102001; have := of_eq_true c102002; omega))⟩) ?_ ?_
            rotate_left
            · simp only [Act.put, List.setIfInBounds_toArray, List.set_cons_zero, List.set_cons_succ, i64_w, i32_w]; rfl
            refine drq_of [(3, some 45), (4, some 46)] ?_
            repeat (first | (refine drq_pure HT (v := ?_) (a' := ?_) rfl rfl (by kernel_rfl) (fun _ _ _ h => h) (.inl ⟨by rfl, ?_⟩) ?_ ?_; rotate_left; (intro w'; go_simp; with_reducible rfl); rotate_left; (simp only [Act.put, List.setIfInBounds_toArray, List.set_cons_zero, List.set_cons_succ, i64_w, i32_w]; rfl)))
            refine drq_end ?_
            refine dr_pure 5 (some 47) HT (v := .string (t17.2.1.extract (t17.1).toNat t17.2.1.size)) (a' := ?_) rfl rfl (by kernel_rfl) (fun _ _ _ h => h) (.inl ⟨by rfl, fun w' => (run_cut rfl rfl Try.underlying9 (.inr ⟨_, _, rfl, rfl, of_eq_true c102001⟩) (.inl ⟨rfl, rfl⟩) (by have := of_eq_true c102001; have := of_eq_true c102002; have := of_eq_true (eq_true (Int.le_refl (t17.2.1.size : Int))); omega) (by have := of_eq_true c102001; have := of_eq_true c102002; have := of_eq_true (eq_true (Int.le_refl (t17.2.1.size : Int))); omega))⟩) ?_ ?_
            rotate_left
            · simp only [Act.put, List.setIfInBounds_toArray, List.set_cons_zero, List.set_cons_succ, i64_w, i32_w]; rfl
            refine drq_of [(6, some 11), (7, some 9)] ?_
            repeat (first | (refine drq_pure HT (v := ?_) (a' := ?_) rfl rfl (by kernel_rfl) (fun _ _ _ h => h) (.inl ⟨by rfl, ?_⟩) ?_ ?_; rotate_left; (intro w'; go_simp; with_reducible rfl); rotate_left; (simp only [Act.put, List.setIfInBounds_toArray, List.set_cons_zero, List.set_cons_succ, i64_w, i32_w]; rfl)))
            refine drq_end ?_
            refine done_ (done_of HT.out (by kernel_rfl)) ?_
            (try clear F)
            have F := HS.boxes; simp only [boxFacts, and_true] at F
            by_cases c26 : (wrap64 (bt a0 0)) = 48
            · replace H := zpos c26 H
              have c26a := beq_iff_eq.mpr c26
              have c26b := bne_eq_false_iff_eq.mpr c26
              clear c26
              (try simp only [c26a, c26b, decide_true, decide_false, Bool.not_true, Bool.not_false])
              go_wp2
              replace HS := HS.nil 107 q107
              go_loopg [11] k (fun kq v_11 w' => ∃ (l53 : List S107) (v54 : Value) (x55 : ByteArray), v_11 = .string x55 ∧ Aside0 (impl_readItem.l0 kq l53 x55 a0 a1 t17 = some (r1, r2, r3)) ∧ Aside0 (kq ≤ k) ∧ Hp noFP w w' [.box g4 [.int .i64 0, .string (⟨#[]⟩ : ByteArray), .slice none 0 0] 107, .box g7 [.int .i64 (wrap64 (bt a0 0)), .string (⟨#[]⟩ : ByteArray), v54] 107, .own (Zd.slice 107 q107) l53 [v54]])
              case atStart => exact ⟨_, _, _, rfl, H, ⟨Nat.le_refl _⟩, HS⟩
              case round =>
               clear HS H; (try clear F)
               obtain ⟨l53, v54, x55, rfl, H, HKk52, HS⟩ := hrel
               obtain ⟨B54, d54, rfl, m54⟩ := HS.form 2 rfl
               have F := HS.boxes; simp only [boxFacts, and_true] at F
               cases gk with
               | zero => exact absurd H.out (by simp [impl_readItem.l0])
               | succ k52 =>
                simp only [impl_readItem.l0] at H
                by_cases c57 : x55.toList = ([] : List UInt8)
                · replace H := zpos c57 H
                  have c57a := beq_iff_eq.mpr c57
                  have c57b := bne_eq_false_iff_eq.mpr c57
                  have c57e := List.isEmpty_iff.mpr c57
                  clear c57
                  obtain ⟨rfl, rfl, rfl⟩ := zsome3 H
                  go_wp2_with (first | ((with_reducible refine gate_store (p := 4) rfl ?_); refine ev_store rfl 0 0 HS (seg := [.int .i64 (wrap64 (bt a0 0)), .string (⟨#[]⟩ : ByteArray), .slice B54 l53.length d54]) rfl rfl rfl rfl rfl rfl (by kernel_rfl) (by simp [wrt]) (by simp [Value.oneCell']) ?_; clear HS; (try clear F); intro w58 HS; replace HS : Hp noFP w _ [.box g4 [.int .i64 (wrap64 (bt a0 0)), .string (⟨#[]⟩ : ByteArray), .slice B54 l53.length d54] 107, .box g7 [.int .i64 (wrap64 (bt a0 0)), .string (⟨#[]⟩ : ByteArray), .slice B54 l53.length d54] 107, .own (Zd.slice 107 q107) l53 [.slice B54 l53.length d54]] := HS; have F := HS.boxes; simp only [boxFacts, and_true] at F))
                  exact bodyPost_ret (results_list (rs := [.cell 4 107, .tmp 5, .tmp 6]) rfl (by simp) (.cell _ _ _ _ _ rfl (HS.boxAt (i := 0) rfl) Try.underlying107 rfl (by kernel_rfl) (.tmp (.tmp .nil)))) rfl ⟨_, rfl, HS.pick [2] (by decide) (by rfl)⟩
                · replace H := zneg c57 H
                  have c57a := beq_eq_false_iff_ne.mpr c57
                  have c57b := bne_iff_ne.mpr c57
                  have c57e := List.isEmpty_eq_false_iff.mpr c57
                  clear c57
                  replace H := zbind H; obtain ⟨t60, ht60, H⟩ := H
                  go_upto_if 66 with (first | ((with_reducible refine gate_dst (N := 61) rfl ?_); refine ev_call rfl Try.func144 (by kernel_rfl) rfl #[.string x55, .int .i64 (wrap64 (a1 + 1))] rfl (by simp only [List.map_toArray, List.map_cons, List.map_nil]; rfl) ?_; refine (IH (by have := HK0.out; have := HKk52.out; omega) ht60.out).mono ?_; rintro _ wt60 ⟨v61, rfl, HQ⟩; refine ⟨_, rfl, ?_⟩; replace HS := HS.call HQ; clear HQ; (try clear F); obtain ⟨B61, d61, rfl, m61⟩ := HS.form 3 rfl; replace HS : Hp noFP w _ [.box g4 [.int .i64 0, .string (⟨#[]⟩ : ByteArray), .slice none 0 0] 107, .box g7 [.int .i64 (wrap64 (bt a0 0)), .string (⟨#[]⟩ : ByteArray), .slice B54 l53.length d54] 107, .own (Zd.slice 107 q107) l53 [.slice B54 l53.length d54], .own (Zd.slice 107 q107) t60.1.f2 [.slice B61 t60.1.f2.length d61]] := HS; have F := HS.boxes; simp only [boxFacts, and_true] at F) | ((with_reducible refine gate_dst (N := 12) rfl ?_); refine ev_box rfl HS (by first | (go_simp; done) | (go_simp; rfl)) rfl ?_; clear HS; (try clear F); intro g12 w12 HS; replace HS : Hp noFP w _ [.box g4 [.int .i64 0, .string (⟨#[]⟩ : ByteArray), .slice none 0 0] 107, .box g7 [.int .i64 (wrap64 (bt a0 0)), .string (⟨#[]⟩ : ByteArray), .slice B54 l53.length d54] 107, .own (Zd.slice 107 q107) l53 [.slice B54 l53.length d54], .own (Zd.slice 107 q107) t60.1.f2 [.slice B61 t60.1.f2.length d61], .box g12 [.int .i64 0, .string (⟨#[]⟩ : ByteArray), .slice none 0 0] 107] := HS; have F := HS.boxes; simp only [boxFacts, and_true] at F) | ((with_reducible refine gate_store (p := 12) rfl ?_); refine ev_store rfl 4 0 HS (seg := [.int .i64 t60.1.f0, .string t60.1.f1, .slice B61 t60.1.f2.length d61]) rfl rfl rfl rfl rfl rfl (by kernel_rfl) (by simp [wrt]) (by simp [Value.oneCell']) ?_; clear HS; (try clear F); intro w65 HS; replace HS : Hp noFP w _ [.box g4 [.int .i64 0, .string (⟨#[]⟩ : ByteArray), .slice none 0 0] 107, .box g7 [.int .i64 (wrap64 (bt a0 0)), .string (⟨#[]⟩ : ByteArray), .slice B54 l53.length d54] 107, .own (Zd.slice 107 q107) l53 [.slice B54 l53.length d54], .own (Zd.slice 107 q107) t60.1.f2 [.slice B61 t60.1.f2.length d61], .box g12 [.int .i64 t60.1.f0, .string t60.1.f1, .slice B61 t60.1.f2.length d61] 107] := HS; have F := HS.boxes; simp only [boxFacts, and_true] at F))
                  by_cases c67 : t60.2.2 = true
                  · replace H := zpos c67 H
                    (try simp only [c67, decide_true, decide_false, Bool.not_true, Bool.not_false])
                    by_cases c70 : l53.length + 1 ≤ 2932031007402
                    case neg => exact zno c70 H
                    replace H := zpos c70 H
                    replace c70 := eq_true c70
                    replace H := zlets H; obtain ⟨y71, e_y71, H⟩ := H
                    go_wp2_with (first | ((with_reducible refine gate_dst (N := 71) rfl ?_); refine ev_lit rfl q107 [3] ([t60.1] : List S107) ([.int .i64 t60.1.f0, .string t60.1.f1, .slice B61 t60.1.f2.length d61] ++ []) HS (by first | (go_simp; done) | (go_simp; rfl)) rfl rfl (Nat.le_of_ble_eq_true rfl) (MadeL.cons (js1 := [3]) (c := [.int .i64 t60.1.f0, .string t60.1.f1, .slice B61 t60.1.f2.length d61]) rfl (fun S hd hh => q107_pack (x := t60.1) hd (hh 3 (.own (Zd.slice 107 q107) t60.1.f2 [.slice B61 t60.1.f2.length d61]) rfl) (by decide)) MadeL.nil (by decide)) ?_; clear HS; (try clear F); intro v68 w68 HS; obtain ⟨B68, d68, rfl, m68⟩ := HS.formn 1 5 rfl rfl; replace HS : Hp noFP w _ [.box g4 [.int .i64 0, .string (⟨#[]⟩ : ByteArray), .slice none 0 0] 107, .box g7 [.int .i64 (wrap64 (bt a0 0)), .string (⟨#[]⟩ : ByteArray), .slice B54 l53.length d54] 107, .own (Zd.slice 107 q107) l53 [.slice B54 l53.length d54], .emp, .box g12 [.int .i64 t60.1.f0, .string t60.1.f1, .slice B61 t60.1.f2.length d61] 107, .own (Zd.slice 107 q107) ([t60.1] : List S107) [.slice B68 1 d68]] := HS; have F := HS.boxes; simp only [boxFacts, and_true] at F) | ((with_reducible refine gate_dst (N := 72) rfl ?_); refine ev_append rfl q107 2 5 HS rfl rfl (by decide) rfl rfl rfl Try.underlying105 info107 rfl (by decide) (by decide) (by have := of_eq_true c70; first | omega | (simp only [List.length_cons, List.length_nil, List.length_append, Nat.zero_add] at this ⊢; omega)) ?_; clear HS; (try clear F); intro v71 w71 HS; rw [← e_y71.out] at HS; obtain ⟨B71, d71, rfl, m71⟩ := HS.form 6 rfl; replace HS : Hp noFP w _ [.box g4 [.int .i64 0, .string (⟨#[]⟩ : ByteArray), .slice none 0 0] 107, .box g7 [.int .i64 (wrap64 (bt a0 0)), .string (⟨#[]⟩ : ByteArray), .slice B54 l53.length d54] 107, .emp, .emp, .box g12 [.int .i64 t60.1.f0, .string t60.1.f1, .slice B61 t60.1.f2.length d61] 107, .emp, .own (Zd.slice 107 q107) y71 [.slice B71 y71.length d71]] := HS; have F := HS.boxes; simp only [boxFacts, and_true] at F) | ((with_reducible refine gate_store (p := 73) rfl ?_); refine ev_store rfl 1 2 HS (seg := [.slice B71 y71.length d71]) rfl rfl rfl rfl rfl rfl (by kernel_rfl) (by simp [wrt]) (by simp [Value.oneCell']) ?_; clear HS; (try clear F); intro w73 HS; replace HS : Hp noFP w _ [.box g4 [.int .i64 0, .string (⟨#[]⟩ : ByteArray), .slice none 0 0] 107, .box g7 [.int .i64 (wrap64 (bt a0 0)), .string (⟨#[]⟩ : ByteArray), .slice B71 y71.length d71] 107, .emp, .emp, .box g12 [.int .i64 t60.1.f0, .string t60.1.f1, .slice B61 t60.1.f2.length d61] 107, .emp, .own (Zd.slice 107 q107) y71 [.slice B71 y71.length d71]] := HS; have F := HS.boxes; simp only [boxFacts, and_true] at F))
                    go_roundg k52
                    case measure => have := HK0.out; have := HKk52.out; omega
                    case rel => exact ⟨_, _, _, rfl, H, ⟨by have := HK0.out; have := HKk52.out; omega⟩, HS.pick [0, 1, 6] (by decide) (by rfl)⟩
                  · replace H := zneg c67 H
                    replace c67 := eq_false_of_ne_true c67
                    (try simp only [c67, decide_true, decide_false, Bool.not_true, Bool.not_false])
                    obtain ⟨rfl, rfl, rfl⟩ := zsome3 H
                    go_wp2_with (first | ((with_reducible refine gate_store (p := 4) rfl ?_); refine ev_store rfl 0 0 HS (seg := [.int .i64 0, .string (⟨#[]⟩ : ByteArray), .slice none 0 0]) rfl rfl rfl rfl rfl rfl (by kernel_rfl) (by simp [wrt]) (by simp [Value.oneCell']) ?_; clear HS; (try clear F); intro w75 HS; replace HS : Hp noFP w _ [.box g4 [.int .i64 0, .string (⟨#[]⟩ : ByteArray), .slice none 0 0] 107, .box g7 [.int .i64 (wrap64 (bt a0 0)), .string (⟨#[]⟩ : ByteArray), .slice B54 l53.length d54] 107, .own (Zd.slice 107 q107) l53 [.slice B54 l53.length d54], .own (Zd.slice 107 q107) t60.1.f2 [.slice B61 t60.1.f2.length d61], .box g12 [.int .i64 t60.1.f0, .string t60.1.f1, .slice B61 t60.1.f2.length d61] 107] := HS; have F := HS.boxes; simp only [boxFacts, and_true] at F))
                    replace HS := HS.nil 107 q107
                    exact bodyPost_ret (results_list (rs := [.cell 4 107, .tmp 5, .tmp 6]) rfl (by simp) (.cell _ _ _ _ _ rfl (HS.boxAt (i := 0) rfl) Try.underlying107 rfl (by kernel_rfl) (.tmp (.tmp .nil)))) rfl ⟨_, rfl, HS.pick [5] (by decide) (by rfl)⟩
            · replace H := zneg c26 H
              have c26a := beq_eq_false_iff_ne.mpr c26
              have c26b := bne_iff_ne.mpr c26
              clear c26
              (try simp only [c26a, c26b, decide_true, decide_false, Bool.not_true, Bool.not_false])
              obtain ⟨rfl, rfl, rfl⟩ := zsome3 H
              go_wp2_with (first | ((with_reducible refine gate_store (p := 52) rfl ?_); refine ev_store rfl 1 1 HS (seg := [.string (t17.2.1.extract 0 (t17.1).toNat)]) rfl rfl rfl rfl rfl rfl (by kernel_rfl) (by simp [wrt]) (by simp [Value.oneCell']) ?_; clear HS; (try clear F); intro w77 HS; replace HS : Hp noFP w _ [.box g4 [.int .i64 0, .string (⟨#[]⟩ : ByteArray), .slice none 0 0] 107, .box g7 [.int .i64 (wrap64 (bt a0 0)), .string (t17.2.1.extract 0 (t17.1).toNat), .slice none 0 0] 107] := HS; have F := HS.boxes; simp only [boxFacts, and_true] at F) | ((with_reducible refine gate_store (p := 4) rfl ?_); refine ev_store rfl 0 0 HS (seg := [.int .i64 (wrap64 (bt a0 0)), .string (t17.2.1.extract 0 (t17.1).toNat), .slice none 0 0]) rfl rfl rfl rfl rfl rfl (by kernel_rfl) (by simp [wrt]) (by simp [Value.oneCell']) ?_; clear HS; (try clear F); intro w79 HS; replace HS : Hp noFP w _ [.box g4 [.int .i64 (wrap64 (bt a0 0)), .string (t17.2.1.extract 0 (t17.1).toNat), .slice none 0 0] 107, .box g7 [.int .i64 (wrap64 (bt a0 0)), .string (t17.2.1.extract 0 (t17.1).toNat), .slice none 0 0] 107] := HS; have F := HS.boxes; simp only [boxFacts, and_true] at F))
              replace HS := HS.nil 107 q107
              exact bodyPost_ret (results_list (rs := [.cell 4 107, .tmp 5, .tmp 6]) rfl (by simp) (.cell _ _ _ _ _ rfl (HS.boxAt (i := 0) rfl) Try.underlying107 rfl (by kernel_rfl) (.tmp (.tmp .nil)))) rfl ⟨_, rfl, HS.pick [2] (by decide) (by rfl)⟩
        · replace H := zneg c19 H
          replace c19 := eq_false_of_ne_true c19
          obtain ⟨rfl, rfl, rfl⟩ := zsome3 H
          go_wp2_with (first | ((with_reducible refine gate_dst (N := 7) rfl ?_); refine ev_box rfl HS (by first | (go_simp; done) | (go_simp; rfl)) rfl ?_; clear HS; (try clear F); intro g7 w7 HS; replace HS : Hp noFP w _ [.box g4 [.int .i64 0, .string (⟨#[]⟩ : ByteArray), .slice none 0 0] 107, .box g7 [.int .i64 0, .string (⟨#[]⟩ : ByteArray), .slice none 0 0] 107] := HS; have F := HS.boxes; simp only [boxFacts, and_true] at F) | ((with_reducible refine gate_store (p := 7) rfl ?_); refine ev_store rfl 1 0 HS (seg := [.int .i64 (wrap64 (bt a0 0)), .string (⟨#[]⟩ : ByteArray), .slice none 0 0]) rfl rfl rfl rfl rfl rfl (by kernel_rfl) (by simp [wrt]) (by simp [Value.oneCell']) ?_; clear HS; (try clear F); intro w14 HS; replace HS : Hp noFP w _ [.box g4 [.int .i64 0, .string (⟨#[]⟩ : ByteArray), .slice none 0 0] 107, .box g7 [.int .i64 (wrap64 (bt a0 0)), .string (⟨#[]⟩ : ByteArray), .slice none 0 0] 107] := HS; have F := HS.boxes; simp only [boxFacts, and_true] at F) | ((with_reducible refine gate_dst (N := 28) rfl ?_); refine ev_val rfl (run_cut rfl rfl Try.underlying9 (.inr ⟨_, _, rfl, rfl, of_eq_true (eq_true (by decide : (0:Int) ≤ 1))⟩) (.inl ⟨rfl, rfl⟩) (by have := of_eq_true (eq_true (by decide : (0:Int) ≤ 1)); have := of_eq_true c16; have := of_eq_true (eq_true (Int.le_refl (a0.size : Int))); omega) (by have := of_eq_true (eq_true (by decide : (0:Int) ≤ 1)); have := of_eq_true c16; have := of_eq_true (eq_true (Int.le_refl (a0.size : Int))); omega)) ?_) | ((with_reducible refine gate_dst (N := 29) rfl ?_); refine ev_call rfl Try.func170 (by kernel_rfl) rfl #[.string (a0.extract 1 a0.size)] rfl (by simp only [List.map_toArray, List.map_cons, List.map_nil]; rfl) ?_; refine (impl_readLength.calls ht17.out).mono ?_; rintro _ wt17 ⟨rfl, HQ⟩; refine ⟨_, rfl, ?_⟩; replace HS := HS.call HQ; clear HQ; (try clear F); replace HS : Hp noFP w _ [.box g4 [.int .i64 0, .string (⟨#[]⟩ : ByteArray), .slice none 0 0] 107, .box g7 [.int .i64 (wrap64 (bt a0 0)), .string (⟨#[]⟩ : ByteArray), .slice none 0 0] 107] := HS; have F := HS.boxes; simp only [boxFacts, and_true] at F; (try simp only [c19])) | ((with_reducible refine gate_store (p := 4) rfl ?_); refine ev_store rfl 0 0 HS (seg := [.int .i64 0, .string (⟨#[]⟩ : ByteArray), .slice none 0 0]) rfl rfl rfl rfl rfl rfl (by kernel_rfl) (by simp [wrt]) (by simp [Value.oneCell']) ?_; clear HS; (try clear F); intro w81 HS; replace HS : Hp noFP w _ [.box g4 [.int .i64 0, .string (⟨#[]⟩ : ByteArray), .slice none 0 0] 107, .box g7 [.int .i64 (wrap64 (bt a0 0)), .string (⟨#[]⟩ : ByteArray), .slice none 0 0] 107] := HS; have F := HS.boxes; simp only [boxFacts, and_true] at F))
          replace HS := HS.nil 107 q107
          exact bodyPost_ret (results_list (rs := [.cell 4 107, .tmp 5, .tmp 6]) rfl (by simp) (.cell _ _ _ _ _ rfl (HS.boxAt (i := 0) rfl) Try.underlying107 rfl (by kernel_rfl) (.tmp (.tmp .nil)))) rfl ⟨_, rfl, HS.pick [2] (by decide) (by rfl)⟩
theorem impl_readItem.calls {k : Nat} {a0 : ByteArray} {a1 : Int} {r1 : S107} {r2 : ByteArray} {r3 : Bool} {w : World} (h : impl_readItem.f k a0 a1 = some (r1, r2, r3)) :
    Calls Try.prog 144 #[.string a0, .int .i64 a1] w (fun e w' => ∃ v0_ : Value, e = .returned (.tuple #[.agg #[.int .i64 r1.f0, .string r1.f1, v0_], .string r2, .bool r3]) ∧ Hp noFP w w' [.own (Zd.slice 107 q107) r1.f2 [v0_]]) := impl_readItem.calls_ k (Nat.le_refl k) h
/-! ### impl_within: function 132 -/
def impl_within.f (a0 : Int) (a1 : Int) (a2 : Int) : Option (Bool) := (if a1 ≤ a0 then (some (decide (a0 ≤ a2))) else (some false))
set_option maxHeartbeats 16000000 in
theorem impl_within.calls {a0 : Int} {a1 : Int} {a2 : Int} {r : Bool} {w : World} (h : impl_within.f a0 a1 a2 = some r) :
    Calls Try.prog 132 #[.int .i64 a0, .int .i64 a1, .int .i64 a2] w (fun e w' => e = .returned (.bool r) ∧ Hp noFP w w' []) := by
 have HS := Hp.start w
 have H := Aside0.mk h
 clear h
 unfold impl_within.f at H
 go_enter Try.func132, Try.ntmps132
 by_cases c1 : a1 ≤ a0
 · replace H := zpos c1 H
   replace c1 := eq_true c1
   obtain rfl := zsome H
   go_wp2
   go_ret
   exact ⟨rfl, HS.pick [] (by decide) (by rfl)⟩
 · replace H := zneg c1 H
   replace c1 := eq_false c1
   obtain rfl := zsome H
   go_wp2
   go_ret
   exact ⟨rfl, HS.pick [] (by decide) (by rfl)⟩
/-! ### impl_bytesIn: function 178 -/
def impl_bytesIn.l0 : Nat → Int → ByteArray → Int → Int → Option (Bool)
  | 0, _, _, _, _ => none
  | k + 1, x4, a0, a1, a2 => (if x4 < (a0.size : Int) then (if 0 ≤ x4 then (if x4 < (a0.size : Int) then ((impl_within.f (wrap64 (bt a0 x4)) a1 a2).bind fun t10 => (if t10 = true then (impl_bytesIn.l0 k (wrap64 (x4 + 1)) a0 a1 a2) else (some false))) else none) else none) else (some true))
def impl_bytesIn.f (k : Nat) (a0 : ByteArray) (a1 : Int) (a2 : Int) : Option (Bool) := (impl_bytesIn.l0 k 0 a0 a1 a2)
set_option maxHeartbeats 16000000 in
theorem impl_bytesIn.calls {k : Nat} {a0 : ByteArray} {a1 : Int} {a2 : Int} {r : Bool} {w : World} (h : impl_bytesIn.f k a0 a1 a2 = some r) :
    Calls Try.prog 178 #[.string a0, .int .i64 a1, .int .i64 a2] w (fun e w' => e = .returned (.bool r) ∧ Hp noFP w w' []) := by
 have HS := Hp.start w
 have H := Aside0.mk h
 clear h
 unfold impl_bytesIn.f at H
 go_enter Try.func178, Try.ntmps178
 go_wp2
 go_loopg [7] k (fun kq v_7 w' => ∃ (x4 : Int), v_7 = .int .i64 x4 ∧ Aside0 (impl_bytesIn.l0 kq x4 a0 a1 a2 = some r) ∧ Aside0 (kq ≤ k) ∧ Hp noFP w w' [])
 case atStart => exact ⟨_, rfl, H, ⟨Nat.le_refl _⟩, HS⟩
 case round =>
  clear HS H; (try clear F)
  obtain ⟨x4, rfl, H, HKk3, HS⟩ := hrel
  cases gk with
  | zero => exact absurd H.out (by simp [impl_bytesIn.l0])
  | succ k3 =>
   simp only [impl_bytesIn.l0] at H
   by_cases c6 : x4 < (a0.size : Int)
   · replace H := zpos c6 H
     replace c6 := eq_true c6
     by_cases c7 : 0 ≤ x4
     case neg => exact zno c7 H
     replace H := zpos c7 H
     replace c7 := eq_true c7
     by_cases c8 : x4 < (a0.size : Int)
     case neg => exact zno c8 H
     replace H := zpos c8 H
     replace c8 := eq_true c8
     have hx9 := bt_at a0 x4
     replace H := zbind H; obtain ⟨t10, ht10, H⟩ := H
     go_upto_if 21 with (first | ((with_reducible refine gate_dst (N := 20) rfl ?_); refine ev_call rfl Try.func132 (by kernel_rfl) rfl #[.int .i64 (wrap64 (bt a0 x4)), .int .i64 a1, .int .i64 a2] rfl (by simp only [List.map_toArray, List.map_cons, List.map_nil]; rfl) ?_; refine (impl_within.calls ht10.out).mono ?_; rintro _ wt10 ⟨rfl, HQ⟩; refine ⟨_, rfl, ?_⟩; replace HS := HS.call HQ; clear HQ; (try clear F); replace HS : Hp noFP w _ [] := HS))
     by_cases c12 : t10 = true
     · replace H := zpos c12 H
       subst c12
       (try simp only [decide_true, decide_false, Bool.not_true, Bool.not_false, if_true, Bool.false_eq_true, if_false])
       go_wp2
       go_roundg k3
       case measure => have := HKk3.out; omega
       case rel => exact ⟨_, rfl, H, ⟨by have := HKk3.out; omega⟩, HS.pick [] (by decide) (by rfl)⟩
     · replace H := zneg c12 H
       replace c12 := eq_false_of_ne_true c12
       subst c12
       (try simp only [decide_true, decide_false, Bool.not_true, Bool.not_false, if_true, Bool.false_eq_true, if_false])
       obtain rfl := zsome H
       go_wp2
       go_ret
       exact ⟨rfl, HS.pick [] (by decide) (by rfl)⟩
   · replace H := zneg c6 H
     replace c6 := eq_false c6
     obtain rfl := zsome H
     go_wp2
     go_ret
     exact ⟨rfl, HS.pick [] (by decide) (by rfl)⟩
end Go.Proofs.Ytdcjcanobiohnaa.F
