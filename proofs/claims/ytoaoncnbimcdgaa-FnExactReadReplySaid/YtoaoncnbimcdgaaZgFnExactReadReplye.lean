/- Functions of the program and of the law, and that their calls do what is written here. -/
import Derived.Test.YtoaoncnbimcdgaaZgFnExactReadReplyb
import Derived.Test.YtoaoncnbimcdgaaZgFnExactReadReplyc
import Derived.Test.YtoaoncnbimcdgaaZgFnExactReadReplyd
namespace Go.Proofs.Ytoaoncnbimcdgaa.F
open Go.RowKit Go.Proofs.YtoaoncnbimcdgaaW.PrintWords Go.Proofs.YtoaoncnbimcdgaaW.PrintLast Go.Proofs.YtoaoncnbimcdgaaW.PrintMore Go.Proofs.Ytoaoncnbimcdgaa.Z
attribute [local go_sem] max2_int min2_int max_two min_two max_three min_three max_four min_four
set_option linter.unusedVariables false
set_option linter.unusedSimpArgs false
set_option maxRecDepth 100000
/-! ### spec_ReadReply: function 14 -/
def spec_ReadReply.l0 : Nat → (List S109) → Int → ByteArray → S100 × Bool → Int × Bool → Int × Bool → Int × Bool → Int × Bool → Int × Bool → Option (S40 × Bool)
  | 0, _, _, _, _, _, _, _, _, _ => none
  | k + 1, l94, x96, a0, t3, t26, t32, t38, t44, t50 => (if 6 < ((rd_T100 t3.1.f2 0).f2.length : Int) then (if x96 < ((rd_T100 ((rd_T100 t3.1.f2 0).f2) 6).f2.length : Int) then (if 0 ≤ x96 then (if x96 < ((rd_T100 ((rd_T100 t3.1.f2 0).f2) 6).f2.length : Int) then ((spec_l09Kids.f (rd_T100 ((rd_T100 ((rd_T100 t3.1.f2 0).f2) 6).f2) x96) 4).bind fun t105 => (if t105.2 = true then (if 2 < ((rd_T100 ((rd_T100 ((rd_T100 t3.1.f2 0).f2) 6).f2) x96).f2.length : Int) then ((spec_l09TextsIn.f k (rd_T100 ((rd_T100 ((rd_T100 ((rd_T100 t3.1.f2 0).f2) 6).f2) x96).f2) 2)).bind fun t303001 => (if 3 < ((rd_T100 ((rd_T100 ((rd_T100 t3.1.f2 0).f2) 6).f2) x96).f2.length : Int) then ((spec_l09TextsIn.f k (rd_T100 ((rd_T100 ((rd_T100 ((rd_T100 t3.1.f2 0).f2) 6).f2) x96).f2) 3)).bind fun t307001 => (if 0 < ((rd_T100 ((rd_T100 ((rd_T100 t3.1.f2 0).f2) 6).f2) x96).f2.length : Int) then ((spec_IntIn.f k (rd_T100 ((rd_T100 ((rd_T100 ((rd_T100 t3.1.f2 0).f2) 6).f2) x96).f2) 0)).bind fun t113 => (if 1 < ((rd_T100 ((rd_T100 ((rd_T100 t3.1.f2 0).f2) 6).f2) x96).f2.length : Int) then ((spec_IntIn.f k (rd_T100 ((rd_T100 ((rd_T100 ((rd_T100 t3.1.f2 0).f2) 6).f2) x96).f2) 1)).bind fun t119 => (if l94.length + 1 ≤ 2199023255552 then (lets (l94 ++ ([(⟨t113.1, t119.1, t303001, t307001⟩ : S109)] : List S109)) fun y126 => (spec_ReadReply.l0 k y126 (wrap64 (x96 + 1)) a0 t3 t26 t32 t38 t44 t50)) else none)) else none)) else none)) else none)) else none) else (some ((⟨(⟨#[]⟩ : ByteArray), 0, 0, 0, 0, 0, ([] : List S109), (⟨#[]⟩ : ByteArray)⟩ : S40), false)))) else none) else none) else ((spec_ReplyText.f k (⟨(rd_T100 ((rd_T100 t3.1.f2 0).f2) 0).f1, t26.1, t32.1, t38.1, t44.1, t50.1, l94, (rd_T100 t3.1.f2 1).f1⟩ : S40)).bind fun t132 => (if t132.2 = true then (if t132.1.toList = a0.toList then (some ((⟨(rd_T100 ((rd_T100 t3.1.f2 0).f2) 0).f1, t26.1, t32.1, t38.1, t44.1, t50.1, l94, (rd_T100 t3.1.f2 1).f1⟩ : S40), true)) else (some ((⟨(⟨#[]⟩ : ByteArray), 0, 0, 0, 0, 0, ([] : List S109), (⟨#[]⟩ : ByteArray)⟩ : S40), false))) else (some ((⟨(⟨#[]⟩ : ByteArray), 0, 0, 0, 0, 0, ([] : List S109), (⟨#[]⟩ : ByteArray)⟩ : S40), false))))) else none)
def spec_ReadReply.f (k : Nat) (a0 : ByteArray) : Option (S40 × Bool) := ((spec_ReadItem.f k a0).bind fun t3 => ((spec_l09Kids.f t3.1 2).bind fun t12 => (if t3.2 = true then (if t12.2 = true then (if 0 < (t3.1.f2.length : Int) then ((spec_l09Kids.f (rd_T100 t3.1.f2 0) 7).bind fun t18 => (if t18.2 = true then (if 0 < ((rd_T100 t3.1.f2 0).f2.length : Int) then (if 1 < (t3.1.f2.length : Int) then (if 1 < ((rd_T100 t3.1.f2 0).f2.length : Int) then ((spec_IntIn.f k (rd_T100 ((rd_T100 t3.1.f2 0).f2) 1)).bind fun t26 => (if 2 < ((rd_T100 t3.1.f2 0).f2.length : Int) then ((spec_IntIn.f k (rd_T100 ((rd_T100 t3.1.f2 0).f2) 2)).bind fun t32 => (if 3 < ((rd_T100 t3.1.f2 0).f2.length : Int) then ((spec_IntIn.f k (rd_T100 ((rd_T100 t3.1.f2 0).f2) 3)).bind fun t38 => (if 4 < ((rd_T100 t3.1.f2 0).f2.length : Int) then ((spec_IntIn.f k (rd_T100 ((rd_T100 t3.1.f2 0).f2) 4)).bind fun t44 => (if 5 < ((rd_T100 t3.1.f2 0).f2.length : Int) then ((spec_IntIn.f k (rd_T100 ((rd_T100 t3.1.f2 0).f2) 5)).bind fun t50 => (spec_ReadReply.l0 k [] 0 a0 t3 t26 t32 t38 t44 t50)) else none)) else none)) else none)) else none)) else none) else none) else none) else (some ((⟨(⟨#[]⟩ : ByteArray), 0, 0, 0, 0, 0, ([] : List S109), (⟨#[]⟩ : ByteArray)⟩ : S40), false)))) else none) else (some ((⟨(⟨#[]⟩ : ByteArray), 0, 0, 0, 0, 0, ([] : List S109), (⟨#[]⟩ : ByteArray)⟩ : S40), false))) else (some ((⟨(⟨#[]⟩ : ByteArray), 0, 0, 0, 0, 0, ([] : List S109), (⟨#[]⟩ : ByteArray)⟩ : S40), false)))))
def spec_ReadReply.T8 : Bool × List (List Nat × List Nat) := (true, [([], []), ([0], [0]), ([1], [1]), ([2], [2]), ([], []), ([4], [4]), ([5], [5]), ([6], [6]), ([3, 7], [3, 7]), ([], []), ([9, 8, 0, 1, 2, 3, 4, 5, 6, 7, 8, 9], [8, 9])])
theorem spec_ReadReply.tT8 : rtab .any (opsOf Try.f14 8) = spec_ReadReply.T8 := by kernel_rfl
def spec_ReadReply.T20 : Bool × List (List Nat × List Nat) := (true, [([], []), ([0], [0]), ([1], [1]), ([2], [2]), ([], []), ([4], [4]), ([5], [5]), ([6, 3], [6]), ([3, 7], [3, 7]), ([], []), ([9, 8, 7, 0, 1, 2, 3, 4, 5, 6, 7, 8, 9], [8, 9])])
theorem spec_ReadReply.tT20 : rtab .any (opsOf Try.f14 20) = spec_ReadReply.T20 := by kernel_rfl
set_option maxHeartbeats 16000000 in
theorem spec_ReadReply.calls {k : Nat} {a0 : ByteArray} {r1 : S40} {r2 : Bool} {w : World} (h : spec_ReadReply.f k a0 = some (r1, r2)) :
    Calls Try.prog 14 #[.string a0] w (fun e w' => ∃ v0_ : Value, e = .returned (.tuple #[.agg #[.string r1.f0, .int .i64 r1.f1, .int .i64 r1.f2, .int .i64 r1.f3, .int .i64 r1.f4, .int .i64 r1.f5, v0_, .string r1.f7], .bool r2]) ∧ Hp noFP w w' [.own (Zd.slice 109 q109) r1.f6 [v0_]]) := by
 have HS := Hp.start w
 have H := Aside0.mk h
 clear h
 unfold spec_ReadReply.f at H
 go_enter Try.func14, Try.ntmps14
 replace H := zbind H; obtain ⟨t3, ht3, H⟩ := H
 replace H := zbind H; obtain ⟨t12, ht12, H⟩ := H
 by_cases c14 : t3.2 = true
 · replace H := zpos c14 H
   go_upto_if 32 with (first | ((with_reducible refine gate_dst (N := 2) rfl ?_); refine ev_box rfl HS (by first | (go_simp; done) | (go_simp; rfl)) rfl ?_; clear HS; (try clear F); intro g2 w2 HS; (try simp only [hpn, hpm] at HS); have F := HS.boxes; simp only [boxFacts, and_true] at F) | ((with_reducible refine gate_dst (N := 19) rfl ?_); refine ev_call rfl Try.func53 (by kernel_rfl) rfl #[.string a0] rfl (by simp only [List.map_toArray, List.map_cons, List.map_nil]; rfl) ?_; refine (spec_ReadItem.calls ht3.out).mono ?_; rintro _ wt3 ⟨v4, rfl, HQ⟩; refine ⟨_, rfl, ?_⟩; replace HS := HS.call HQ; clear HQ; (try clear F); obtain ⟨B4, d4, rfl, m4⟩ := HS.form 1 rfl; (try simp only [hpn, hpm] at HS); have F := HS.boxes; simp only [boxFacts, and_true] at F; refine HS.lend [0] (by decide) [.box g2 [.string (⟨#[]⟩ : ByteArray), .int .i64 0, .int .i64 0, .int .i64 0, .int .i64 0, .int .i64 0, .slice none 0 0, .string (⟨#[]⟩ : ByteArray)] 40] rfl (fun A6 HL HD HA HB6 => ?_); have gb6_0 := hide_rd HD 1 rfl (by decide); replace HS := HA; have hV := hide_view A6 wt3; clear HA HD HL; (try clear F); replace HS : Hp A6 wt3 _ [.box g2 [.string (⟨#[]⟩ : ByteArray), .int .i64 0, .int .i64 0, .int .i64 0, .int .i64 0, .int .i64 0, .slice none 0 0, .string (⟨#[]⟩ : ByteArray)] 40] := HS; have F := HS.boxes; simp only [boxFacts, and_true] at F) | ((with_reducible refine gate_dst (N := 4) rfl ?_); refine ev_box rfl HS (by first | (go_simp; done) | (go_simp; rfl)) rfl ?_; clear HS; (try clear F); intro g4 w4 HS; (try simp only [hpn, hpm] at HS); have F := HS.boxes; simp only [boxFacts, and_true] at F) | ((with_reducible refine gate_store (p := 4) rfl ?_); refine ev_store rfl 1 0 HS (seg := [.int .i64 t3.1.f0, .string t3.1.f1, .slice B4 t3.1.f2.length d4]) rfl rfl rfl rfl rfl rfl (by kernel_rfl) (by simp [wrt]) (by simp [Value.oneCell']) ?_; clear HS; (try clear F); intro w10 HS; (try simp only [hpn, hpm] at HS); have F := HS.boxes; simp only [boxFacts, and_true] at F) | ((with_reducible refine gate_dst (N := 24) rfl ?_); refine ev_call rfl Try.func54 (by kernel_rfl) rfl #[.agg #[.int .i64 t3.1.f0, .string t3.1.f1, .slice B4 t3.1.f2.length d4], .int .i64 2] rfl (by simp only [List.map_toArray, List.map_cons, List.map_nil]; rfl) ?_; refine (spec_l09Kids.calls ht12.out (hV.ro km100 HS gb6_0) m4).mono ?_; rintro _ wt12 ⟨rfl, HQ⟩; refine ⟨_, rfl, ?_⟩; replace HS := HS.call HQ; clear HQ; (try clear F); (try simp only [hpn, hpm] at HS); have F := HS.boxes; simp only [boxFacts, and_true] at F; (try simp only [c14])))
   by_cases c15 : t12.2 = true
   · replace H := zpos c15 H
     (try simp only [c15, dcn])
     by_cases c16 : 0 < (t3.1.f2.length : Int)
     case neg => exact zno c16 H
     replace H := zpos c16 H
     replace c16 := eq_true c16
     have c16n : (0 < t3.1.f2.length) = True := eq_true (by have := of_eq_true c16; omega)
     obtain ⟨ad17, B17_2, d17_2, rfl, e17_0, e17_1, e17_2, m17_2, y17_2⟩ := at_T100 gb6_0 0 (of_eq_true (eq_true (by decide))) (of_eq_true c16)
     (try (have e17_0' := e17_0; simp only [Int.toNat_zero, Int.reduceToNat, Int.toNat_natCast, Nat.zero_mul, Nat.one_mul, Nat.zero_add, Nat.add_zero, Addr.add_zero', Addr.add_succ', Nat.reduceMul, Nat.reduceAdd] at e17_0'))
     (try (have e17_1' := e17_1; simp only [Int.toNat_zero, Int.reduceToNat, Int.toNat_natCast, Nat.zero_mul, Nat.one_mul, Nat.zero_add, Nat.add_zero, Addr.add_zero', Addr.add_succ', Nat.reduceMul, Nat.reduceAdd] at e17_1'))
     (try (have e17_2' := e17_2; simp only [Int.toNat_zero, Int.reduceToNat, Int.toNat_natCast, Nat.zero_mul, Nat.one_mul, Nat.zero_add, Nat.add_zero, Addr.add_zero', Addr.add_succ', Nat.reduceMul, Nat.reduceAdd] at e17_2'))
     have e17_0_17 := (hV.keepc HS e17_0)
     have e17_1_17 := (hV.keepc HS e17_1)
     have e17_2_17 := (hV.keepc HS e17_2)
     (try have e17_0'_17 := (hV.keepc HS e17_0'))
     (try have e17_1'_17 := (hV.keepc HS e17_1'))
     (try have e17_2'_17 := (hV.keepc HS e17_2'))
     replace H := zbind H; obtain ⟨t18, ht18, H⟩ := H
     go_upto_if 42 with (first | ((with_reducible refine gate_dst (N := 38) rfl ?_); refine ev_call rfl Try.func54 (by kernel_rfl) rfl #[.agg #[.int .i64 ((rd_T100 t3.1.f2 0).f0), .string ((rd_T100 t3.1.f2 0).f1), .slice B17_2 (rd_T100 t3.1.f2 0).f2.length d17_2], .int .i64 7] rfl (by simp only [List.map_toArray, List.map_cons, List.map_nil]; rfl) ?_; refine (spec_l09Kids.calls ht18.out (hV.ro km100 HS y17_2) m17_2).mono ?_; rintro _ wt18 ⟨rfl, HQ⟩; refine ⟨_, rfl, ?_⟩; replace HS := HS.call HQ; clear HQ; (try clear F); (try simp only [hpn, hpm] at HS); have F := HS.boxes; simp only [boxFacts, and_true] at F))
     by_cases c20 : t18.2 = true
     · replace H := zpos c20 H
       (try simp only [c20, dcn])
       (try go_wp2)
       by_cases c101001 : 0 < ((rd_T100 t3.1.f2 0).f2.length : Int)
       case neg => exact zno c101001 H
       replace H := zpos c101001 H
       replace c101001 := eq_true c101001
       have c101001n : (0 < (rd_T100 t3.1.f2 0).f2.length) = True := eq_true (by have := of_eq_true c101001; omega)
       obtain ⟨ad101999, B101999_2, d101999_2, rfl, e101999_0, e101999_1, e101999_2, m101999_2, y101999_2⟩ := at_T100 y17_2 0 (of_eq_true (eq_true (by decide))) (of_eq_true c101001); (try (have e101999_0' := e101999_0; simp only [Int.toNat_zero, Int.reduceToNat, Int.toNat_natCast, Nat.zero_mul, Nat.one_mul, Nat.zero_add, Nat.add_zero, Addr.add_zero', Addr.add_succ', Nat.reduceMul, Nat.reduceAdd] at e101999_0')); (try (have e101999_1' := e101999_1; simp only [Int.toNat_zero, Int.reduceToNat, Int.toNat_natCast, Nat.zero_mul, Nat.one_mul, Nat.zero_add, Nat.add_zero, Addr.add_zero', Addr.add_succ', Nat.reduceMul, Nat.reduceAdd] at e101999_1')); (try (have e101999_2' := e101999_2; simp only [Int.toNat_zero, Int.reduceToNat, Int.toNat_natCast, Nat.zero_mul, Nat.one_mul, Nat.zero_add, Nat.add_zero, Addr.add_zero', Addr.add_succ', Nat.reduceMul, Nat.reduceAdd] at e101999_2'))
       by_cases c105001 : 1 < (t3.1.f2.length : Int)
       case neg => exact zno c105001 H
       replace H := zpos c105001 H
       replace c105001 := eq_true c105001
       have c105001n : (1 < t3.1.f2.length) = True := eq_true (by have := of_eq_true c105001; omega)
       obtain ⟨ad105999, B105999_2, d105999_2, hq105999, e105999_0, e105999_1, e105999_2, m105999_2, y105999_2⟩ := at_T100 gb6_0 1 (of_eq_true (eq_true (by decide))) (of_eq_true c105001); obtain rfl := Option.some.inj hq105999; (try (have e105999_0' := e105999_0; simp only [Int.toNat_zero, Int.reduceToNat, Int.toNat_natCast, Nat.zero_mul, Nat.one_mul, Nat.zero_add, Nat.add_zero, Addr.add_zero', Addr.add_succ', Nat.reduceMul, Nat.reduceAdd] at e105999_0')); (try (have e105999_1' := e105999_1; simp only [Int.toNat_zero, Int.reduceToNat, Int.toNat_natCast, Nat.zero_mul, Nat.one_mul, Nat.zero_add, Nat.add_zero, Addr.add_zero', Addr.add_succ', Nat.reduceMul, Nat.reduceAdd] at e105999_1')); (try (have e105999_2' := e105999_2; simp only [Int.toNat_zero, Int.reduceToNat, Int.toNat_natCast, Nat.zero_mul, Nat.one_mul, Nat.zero_add, Nat.add_zero, Addr.add_zero', Addr.add_succ', Nat.reduceMul, Nat.reduceAdd] at e105999_2'))
       refine dr_start [10] HS #[false, false, false, false, false, false, false, false, false, false, false] (by kernel_rfl) rfl rfl spec_ReadReply.tT8 (fun w22 HT HS HH => ?_)
       (try clear F)
       refine drq_of [(0, some 44), (1, some 45), (2, some 46)] ?_
       repeat (first | (refine drq_pure HT (v := ?_) (a' := ?_) rfl rfl (by kernel_rfl) (fun _ _ _ h => h) (.inl ⟨by rfl, ?_⟩) ?_ ?_; rotate_left; (intro w'; go_simp; with_reducible rfl); rotate_left; (simp only [Act.put, List.setIfInBounds_toArray, List.set_cons_zero, List.set_cons_succ, i64_w, i32_w]; rfl)))
       refine drq_end ?_
       refine dr_take 3 (some 47) HT HH (v := ?_) (a' := ?_) rfl rfl (by kernel_rfl) (fun _ _ _ h => h) (.inl ⟨by rfl, ?_⟩) ?_ ?_
       rotate_left
       · rintro w' ⟨rs', HS'⟩; have e101999_0 := (hV.keepc HS' e101999_0); have e101999_1 := (hV.keepc HS' e101999_1); have e101999_2 := (hV.keepc HS' e101999_2); (try simp only [Int.toNat_zero, Int.reduceToNat, Int.toNat_natCast, Nat.zero_mul, Nat.one_mul, Nat.zero_add, Nat.add_zero, Addr.add_zero', Addr.add_succ', Nat.reduceMul, Nat.reduceAdd] at e101999_0 e101999_1 e101999_2); go_simp; with_reducible rfl
       rotate_left
       · simp only [Act.put, List.setIfInBounds_toArray, List.set_cons_zero, List.set_cons_succ, i64_w, i32_w]; rfl
       refine drq_of [(4, some 48), (5, some 49), (6, some 50)] ?_
       repeat (first | (refine drq_pure HT (v := ?_) (a' := ?_) rfl rfl (by kernel_rfl) (fun _ _ _ h => h) (.inl ⟨by rfl, ?_⟩) ?_ ?_; rotate_left; (intro w'; go_simp; with_reducible rfl); rotate_left; (simp only [Act.put, List.setIfInBounds_toArray, List.set_cons_zero, List.set_cons_succ, i64_w, i32_w]; rfl)))
       refine drq_end ?_
       refine dr_take 7 (some 51) HT HH (v := ?_) (a' := ?_) rfl rfl (by kernel_rfl) (fun _ _ _ h => h) (.inl ⟨by rfl, ?_⟩) ?_ ?_
       rotate_left
       · rintro w' ⟨rs', HS'⟩; have e105999_0 := (hV.keepc HS' e105999_0); have e105999_1 := (hV.keepc HS' e105999_1); have e105999_2 := (hV.keepc HS' e105999_2); (try simp only [Int.toNat_zero, Int.reduceToNat, Int.toNat_natCast, Nat.zero_mul, Nat.one_mul, Nat.zero_add, Nat.add_zero, Addr.add_zero', Addr.add_succ', Nat.reduceMul, Nat.reduceAdd] at e105999_0 e105999_1 e105999_2); go_simp; with_reducible rfl
       rotate_left
       · simp only [Act.put, List.setIfInBounds_toArray, List.set_cons_zero, List.set_cons_succ, i64_w, i32_w]; rfl
       refine drq_of [(8, some 52)] ?_
       repeat (first | (refine drq_pure HT (v := ?_) (a' := ?_) rfl rfl (by kernel_rfl) (fun _ _ _ h => h) (.inl ⟨by rfl, ?_⟩) ?_ ?_; rotate_left; (intro w'; go_simp; with_reducible rfl); rotate_left; (simp only [Act.put, List.setIfInBounds_toArray, List.set_cons_zero, List.set_cons_succ, i64_w, i32_w]; rfl)))
       refine drq_end ?_
       refine dr_one 9 HT rfl (by kernel_rfl) (by decide) (fun K hK => ?_)
       refine if_wp (by rfl) ?_; refine wp_box HS (by first | (go_simp; done) | (go_simp; rfl)) rfl ?_; clear HS; (try clear F); intro g10 w10 HS
       (try simp only [hpn, hpm] at HS)
       have F := HS.boxes; simp only [boxFacts, and_true] at F
       refine hK.out _ _ ⟨_, HS⟩ (fun HH => ?_)
       clear hK K
       refine norm_ (a' := ?_) ?_ ?_
       rotate_left
       · show Act.put _ (some 10) _ = _; simp only [Act.put, List.setIfInBounds_toArray, List.set_cons_zero, List.set_cons_succ, i64_w, i32_w, c14, c15, c20]; rfl
       refine dr_last 10 HT rfl (by kernel_rfl) (by decide) (fun K hK => ?_)
       refine if_wp (by rfl) ?_; refine wp_store 2 0 HS (seg := [.string ((rd_T100 ((rd_T100 t3.1.f2 0).f2) 0).f1), .int .i64 0, .int .i64 0, .int .i64 0, .int .i64 0, .int .i64 0, .slice none 0 0, .string ((rd_T100 t3.1.f2 1).f1)]) rfl rfl rfl rfl rfl rfl (by kernel_rfl) (by simp [wrt]) (by simp [Value.oneCell']) ?_; clear HS; (try clear F); intro w110001 HS
       (try simp only [hpn, hpm] at HS)
       have F := HS.boxes; simp only [boxFacts, and_true] at F
       refine hK.out _ _ ?_
       clear hK K
       refine done_ (done_of HT.out (by kernel_rfl)) ?_
       (try clear F)
       have F := HS.boxes; simp only [boxFacts, and_true] at F
       by_cases c24 : 1 < ((rd_T100 t3.1.f2 0).f2.length : Int)
       case neg => exact zno c24 H
       replace H := zpos c24 H
       replace c24 := eq_true c24
       have c24n : (1 < (rd_T100 t3.1.f2 0).f2.length) = True := eq_true (by have := of_eq_true c24; omega)
       obtain ⟨ad25, B25_2, d25_2, hq25, e25_0, e25_1, e25_2, m25_2, y25_2⟩ := at_T100 y17_2 1 (of_eq_true (eq_true (by decide))) (of_eq_true c24)
       obtain rfl := Option.some.inj hq25
       (try (have e25_0' := e25_0; simp only [Int.toNat_zero, Int.reduceToNat, Int.toNat_natCast, Nat.zero_mul, Nat.one_mul, Nat.zero_add, Nat.add_zero, Addr.add_zero', Addr.add_succ', Nat.reduceMul, Nat.reduceAdd] at e25_0'))
       (try (have e25_1' := e25_1; simp only [Int.toNat_zero, Int.reduceToNat, Int.toNat_natCast, Nat.zero_mul, Nat.one_mul, Nat.zero_add, Nat.add_zero, Addr.add_zero', Addr.add_succ', Nat.reduceMul, Nat.reduceAdd] at e25_1'))
       (try (have e25_2' := e25_2; simp only [Int.toNat_zero, Int.reduceToNat, Int.toNat_natCast, Nat.zero_mul, Nat.one_mul, Nat.zero_add, Nat.add_zero, Addr.add_zero', Addr.add_succ', Nat.reduceMul, Nat.reduceAdd] at e25_2'))
       have e25_0_25 := (hV.keepc HS e25_0)
       have e25_1_25 := (hV.keepc HS e25_1)
       have e25_2_25 := (hV.keepc HS e25_2)
       (try have e25_0'_25 := (hV.keepc HS e25_0'))
       (try have e25_1'_25 := (hV.keepc HS e25_1'))
       (try have e25_2'_25 := (hV.keepc HS e25_2'))
       replace H := zbind H; obtain ⟨t26, ht26, H⟩ := H
       by_cases c30 : 2 < ((rd_T100 t3.1.f2 0).f2.length : Int)
       case neg => exact zno c30 H
       replace H := zpos c30 H
       replace c30 := eq_true c30
       have c30n : (2 < (rd_T100 t3.1.f2 0).f2.length) = True := eq_true (by have := of_eq_true c30; omega)
       replace H := zbind H; obtain ⟨t32, ht32, H⟩ := H
       by_cases c36 : 3 < ((rd_T100 t3.1.f2 0).f2.length : Int)
       case neg => exact zno c36 H
       replace H := zpos c36 H
       replace c36 := eq_true c36
       have c36n : (3 < (rd_T100 t3.1.f2 0).f2.length) = True := eq_true (by have := of_eq_true c36; omega)
       replace H := zbind H; obtain ⟨t38, ht38, H⟩ := H
       by_cases c42 : 4 < ((rd_T100 t3.1.f2 0).f2.length : Int)
       case neg => exact zno c42 H
       replace H := zpos c42 H
       replace c42 := eq_true c42
       have c42n : (4 < (rd_T100 t3.1.f2 0).f2.length) = True := eq_true (by have := of_eq_true c42; omega)
       replace H := zbind H; obtain ⟨t44, ht44, H⟩ := H
       by_cases c48 : 5 < ((rd_T100 t3.1.f2 0).f2.length : Int)
       case neg => exact zno c48 H
       replace H := zpos c48 H
       replace c48 := eq_true c48
       have c48n : (5 < (rd_T100 t3.1.f2 0).f2.length) = True := eq_true (by have := of_eq_true c48; omega)
       replace H := zbind H; obtain ⟨t50, ht50, H⟩ := H
       go_wp2_with (first | ((with_reducible refine gate_dst (N := 57) rfl ?_); refine ev_call rfl Try.func55 (by kernel_rfl) rfl #[.agg #[.int .i64 ((rd_T100 ((rd_T100 t3.1.f2 0).f2) 1).f0), .string ((rd_T100 ((rd_T100 t3.1.f2 0).f2) 1).f1), .slice B25_2 (rd_T100 ((rd_T100 t3.1.f2 0).f2) 1).f2.length d25_2]] rfl (by simp only [List.map_toArray, List.map_cons, List.map_nil]; rfl) ?_; refine (spec_IntIn.calls ht26.out (hV.ro km100 HS y25_2) m25_2).mono ?_; rintro _ wt26 ⟨rfl, HQ⟩; refine ⟨_, rfl, ?_⟩; replace HS := HS.call HQ; clear HQ; (try clear F); (try simp only [hpn, hpm] at HS); have F := HS.boxes; simp only [boxFacts, and_true] at F) | ((with_reducible refine gate_store (p := 60) rfl ?_); refine ev_store rfl 2 1 HS (seg := [.int .i64 t26.1]) rfl rfl rfl rfl rfl rfl (by kernel_rfl) (by simp [wrt]) (by simp [Value.oneCell']) ?_; clear HS; (try clear F); intro w28 HS; (try simp only [hpn, hpm] at HS); have F := HS.boxes; simp only [boxFacts, and_true] at F; obtain ⟨ad31, B31_2, d31_2, hq31, e31_0, e31_1, e31_2, m31_2, y31_2⟩ := at_T100 y17_2 2 (of_eq_true (eq_true (by decide))) (of_eq_true c30); obtain rfl := Option.some.inj hq31; (try (have e31_0' := e31_0; simp only [Int.toNat_zero, Int.reduceToNat, Int.toNat_natCast, Nat.zero_mul, Nat.one_mul, Nat.zero_add, Nat.add_zero, Addr.add_zero', Addr.add_succ', Nat.reduceMul, Nat.reduceAdd] at e31_0')); (try (have e31_1' := e31_1; simp only [Int.toNat_zero, Int.reduceToNat, Int.toNat_natCast, Nat.zero_mul, Nat.one_mul, Nat.zero_add, Nat.add_zero, Addr.add_zero', Addr.add_succ', Nat.reduceMul, Nat.reduceAdd] at e31_1')); (try (have e31_2' := e31_2; simp only [Int.toNat_zero, Int.reduceToNat, Int.toNat_natCast, Nat.zero_mul, Nat.one_mul, Nat.zero_add, Nat.add_zero, Addr.add_zero', Addr.add_succ', Nat.reduceMul, Nat.reduceAdd] at e31_2')); have e31_0_31 := (hV.keepc HS e31_0); have e31_1_31 := (hV.keepc HS e31_1); have e31_2_31 := (hV.keepc HS e31_2); (try have e31_0'_31 := (hV.keepc HS e31_0')); (try have e31_1'_31 := (hV.keepc HS e31_1')); (try have e31_2'_31 := (hV.keepc HS e31_2'))) | ((with_reducible refine gate_dst (N := 65) rfl ?_); refine ev_call rfl Try.func55 (by kernel_rfl) rfl #[.agg #[.int .i64 ((rd_T100 ((rd_T100 t3.1.f2 0).f2) 2).f0), .string ((rd_T100 ((rd_T100 t3.1.f2 0).f2) 2).f1), .slice B31_2 (rd_T100 ((rd_T100 t3.1.f2 0).f2) 2).f2.length d31_2]] rfl (by simp only [List.map_toArray, List.map_cons, List.map_nil]; rfl) ?_; refine (spec_IntIn.calls ht32.out (hV.ro km100 HS y31_2) m31_2).mono ?_; rintro _ wt32 ⟨rfl, HQ⟩; refine ⟨_, rfl, ?_⟩; replace HS := HS.call HQ; clear HQ; (try clear F); (try simp only [hpn, hpm] at HS); have F := HS.boxes; simp only [boxFacts, and_true] at F) | ((with_reducible refine gate_store (p := 68) rfl ?_); refine ev_store rfl 2 2 HS (seg := [.int .i64 t32.1]) rfl rfl rfl rfl rfl rfl (by kernel_rfl) (by simp [wrt]) (by simp [Value.oneCell']) ?_; clear HS; (try clear F); intro w34 HS; (try simp only [hpn, hpm] at HS); have F := HS.boxes; simp only [boxFacts, and_true] at F; obtain ⟨ad37, B37_2, d37_2, hq37, e37_0, e37_1, e37_2, m37_2, y37_2⟩ := at_T100 y17_2 3 (of_eq_true (eq_true (by decide))) (of_eq_true c36); obtain rfl := Option.some.inj hq37; (try (have e37_0' := e37_0; simp only [Int.toNat_zero, Int.reduceToNat, Int.toNat_natCast, Nat.zero_mul, Nat.one_mul, Nat.zero_add, Nat.add_zero, Addr.add_zero', Addr.add_succ', Nat.reduceMul, Nat.reduceAdd] at e37_0')); (try (have e37_1' := e37_1; simp only [Int.toNat_zero, Int.reduceToNat, Int.toNat_natCast, Nat.zero_mul, Nat.one_mul, Nat.zero_add, Nat.add_zero, Addr.add_zero', Addr.add_succ', Nat.reduceMul, Nat.reduceAdd] at e37_1')); (try (have e37_2' := e37_2; simp only [Int.toNat_zero, Int.reduceToNat, Int.toNat_natCast, Nat.zero_mul, Nat.one_mul, Nat.zero_add, Nat.add_zero, Addr.add_zero', Addr.add_succ', Nat.reduceMul, Nat.reduceAdd] at e37_2')); have e37_0_37 := (hV.keepc HS e37_0); have e37_1_37 := (hV.keepc HS e37_1); have e37_2_37 := (hV.keepc HS e37_2); (try have e37_0'_37 := (hV.keepc HS e37_0')); (try have e37_1'_37 := (hV.keepc HS e37_1')); (try have e37_2'_37 := (hV.keepc HS e37_2'))) | ((with_reducible refine gate_dst (N := 73) rfl ?_); refine ev_call rfl Try.func55 (by kernel_rfl) rfl #[.agg #[.int .i64 ((rd_T100 ((rd_T100 t3.1.f2 0).f2) 3).f0), .string ((rd_T100 ((rd_T100 t3.1.f2 0).f2) 3).f1), .slice B37_2 (rd_T100 ((rd_T100 t3.1.f2 0).f2) 3).f2.length d37_2]] rfl (by simp only [List.map_toArray, List.map_cons, List.map_nil]; rfl) ?_; refine (spec_IntIn.calls ht38.out (hV.ro km100 HS y37_2) m37_2).mono ?_; rintro _ wt38 ⟨rfl, HQ⟩; refine ⟨_, rfl, ?_⟩; replace HS := HS.call HQ; clear HQ; (try clear F); (try simp only [hpn, hpm] at HS); have F := HS.boxes; simp only [boxFacts, and_true] at F) | ((with_reducible refine gate_store (p := 76) rfl ?_); refine ev_store rfl 2 3 HS (seg := [.int .i64 t38.1]) rfl rfl rfl rfl rfl rfl (by kernel_rfl) (by simp [wrt]) (by simp [Value.oneCell']) ?_; clear HS; (try clear F); intro w40 HS; (try simp only [hpn, hpm] at HS); have F := HS.boxes; simp only [boxFacts, and_true] at F; obtain ⟨ad43, B43_2, d43_2, hq43, e43_0, e43_1, e43_2, m43_2, y43_2⟩ := at_T100 y17_2 4 (of_eq_true (eq_true (by decide))) (of_eq_true c42); obtain rfl := Option.some.inj hq43; (try (have e43_0' := e43_0; simp only [Int.toNat_zero, Int.reduceToNat, Int.toNat_natCast, Nat.zero_mul, Nat.one_mul, Nat.zero_add, Nat.add_zero, Addr.add_zero', Addr.add_succ', Nat.reduceMul, Nat.reduceAdd] at e43_0')); (try (have e43_1' := e43_1; simp only [Int.toNat_zero, Int.reduceToNat, Int.toNat_natCast, Nat.zero_mul, Nat.one_mul, Nat.zero_add, Nat.add_zero, Addr.add_zero', Addr.add_succ', Nat.reduceMul, Nat.reduceAdd] at e43_1')); (try (have e43_2' := e43_2; simp only [Int.toNat_zero, Int.reduceToNat, Int.toNat_natCast, Nat.zero_mul, Nat.one_mul, Nat.zero_add, Nat.add_zero, Addr.add_zero', Addr.add_succ', Nat.reduceMul, Nat.reduceAdd] at e43_2')); have e43_0_43 := (hV.keepc HS e43_0); have e43_1_43 := (hV.keepc HS e43_1); have e43_2_43 := (hV.keepc HS e43_2); (try have e43_0'_43 := (hV.keepc HS e43_0')); (try have e43_1'_43 := (hV.keepc HS e43_1')); (try have e43_2'_43 := (hV.keepc HS e43_2'))) | ((with_reducible refine gate_dst (N := 81) rfl ?_); refine ev_call rfl Try.func55 (by kernel_rfl) rfl #[.agg #[.int .i64 ((rd_T100 ((rd_T100 t3.1.f2 0).f2) 4).f0), .string ((rd_T100 ((rd_T100 t3.1.f2 0).f2) 4).f1), .slice B43_2 (rd_T100 ((rd_T100 t3.1.f2 0).f2) 4).f2.length d43_2]] rfl (by simp only [List.map_toArray, List.map_cons, List.map_nil]; rfl) ?_; refine (spec_IntIn.calls ht44.out (hV.ro km100 HS y43_2) m43_2).mono ?_; rintro _ wt44 ⟨rfl, HQ⟩; refine ⟨_, rfl, ?_⟩; replace HS := HS.call HQ; clear HQ; (try clear F); (try simp only [hpn, hpm] at HS); have F := HS.boxes; simp only [boxFacts, and_true] at F) | ((with_reducible refine gate_store (p := 84) rfl ?_); refine ev_store rfl 2 4 HS (seg := [.int .i64 t44.1]) rfl rfl rfl rfl rfl rfl (by kernel_rfl) (by simp [wrt]) (by simp [Value.oneCell']) ?_; clear HS; (try clear F); intro w46 HS; (try simp only [hpn, hpm] at HS); have F := HS.boxes; simp only [boxFacts, and_true] at F; obtain ⟨ad49, B49_2, d49_2, hq49, e49_0, e49_1, e49_2, m49_2, y49_2⟩ := at_T100 y17_2 5 (of_eq_true (eq_true (by decide))) (of_eq_true c48); obtain rfl := Option.some.inj hq49; (try (have e49_0' := e49_0; simp only [Int.toNat_zero, Int.reduceToNat, Int.toNat_natCast, Nat.zero_mul, Nat.one_mul, Nat.zero_add, Nat.add_zero, Addr.add_zero', Addr.add_succ', Nat.reduceMul, Nat.reduceAdd] at e49_0')); (try (have e49_1' := e49_1; simp only [Int.toNat_zero, Int.reduceToNat, Int.toNat_natCast, Nat.zero_mul, Nat.one_mul, Nat.zero_add, Nat.add_zero, Addr.add_zero', Addr.add_succ', Nat.reduceMul, Nat.reduceAdd] at e49_1')); (try (have e49_2' := e49_2; simp only [Int.toNat_zero, Int.reduceToNat, Int.toNat_natCast, Nat.zero_mul, Nat.one_mul, Nat.zero_add, Nat.add_zero, Addr.add_zero', Addr.add_succ', Nat.reduceMul, Nat.reduceAdd] at e49_2')); have e49_0_49 := (hV.keepc HS e49_0); have e49_1_49 := (hV.keepc HS e49_1); have e49_2_49 := (hV.keepc HS e49_2); (try have e49_0'_49 := (hV.keepc HS e49_0')); (try have e49_1'_49 := (hV.keepc HS e49_1')); (try have e49_2'_49 := (hV.keepc HS e49_2'))) | ((with_reducible refine gate_dst (N := 89) rfl ?_); refine ev_call rfl Try.func55 (by kernel_rfl) rfl #[.agg #[.int .i64 ((rd_T100 ((rd_T100 t3.1.f2 0).f2) 5).f0), .string ((rd_T100 ((rd_T100 t3.1.f2 0).f2) 5).f1), .slice B49_2 (rd_T100 ((rd_T100 t3.1.f2 0).f2) 5).f2.length d49_2]] rfl (by simp only [List.map_toArray, List.map_cons, List.map_nil]; rfl) ?_; refine (spec_IntIn.calls ht50.out (hV.ro km100 HS y49_2) m49_2).mono ?_; rintro _ wt50 ⟨rfl, HQ⟩; refine ⟨_, rfl, ?_⟩; replace HS := HS.call HQ; clear HQ; (try clear F); (try simp only [hpn, hpm] at HS); have F := HS.boxes; simp only [boxFacts, and_true] at F) | ((with_reducible refine gate_store (p := 92) rfl ?_); refine ev_store rfl 2 5 HS (seg := [.int .i64 t50.1]) rfl rfl rfl rfl rfl rfl (by kernel_rfl) (by simp [wrt]) (by simp [Value.oneCell']) ?_; clear HS; (try clear F); intro w52 HS; (try simp only [hpn, hpm] at HS); have F := HS.boxes; simp only [boxFacts, and_true] at F))
       replace HS := HS.nil 109 q109
       go_loopg [11] k (fun kq v_11 w' => ∃ (l94 : List S109) (v95 : Value) (x96 : Int), v_11 = .int .i64 x96 ∧ Aside0 (spec_ReadReply.l0 kq l94 x96 a0 t3 t26 t32 t38 t44 t50 = some (r1, r2)) ∧ Aside0 (kq ≤ k) ∧ Hp A6 wt3 w' [.box g2 [.string (⟨#[]⟩ : ByteArray), .int .i64 0, .int .i64 0, .int .i64 0, .int .i64 0, .int .i64 0, .slice none 0 0, .string (⟨#[]⟩ : ByteArray)] 40, .box g4 [.int .i64 t3.1.f0, .string t3.1.f1, .slice (some ad17) t3.1.f2.length d4] 100, .box g10 [.string ((rd_T100 ((rd_T100 t3.1.f2 0).f2) 0).f1), .int .i64 t26.1, .int .i64 t32.1, .int .i64 t38.1, .int .i64 t44.1, .int .i64 t50.1, v95, .string ((rd_T100 t3.1.f2 1).f1)] 40, .own (Zd.slice 109 q109) l94 [v95]])
       case atStart => exact ⟨_, _, _, rfl, H, ⟨Nat.le_refl _⟩, HS⟩
       case round =>
        clear HS H; (try clear F)
        obtain ⟨l94, v95, x96, rfl, H, HKk93, HS⟩ := hrel
        obtain ⟨B95, d95, rfl, m95⟩ := HS.form 3 rfl
        have F := HS.boxes; simp only [boxFacts, and_true] at F
        cases gk with
        | zero => exact absurd H.out (by simp [spec_ReadReply.l0])
        | succ k93 =>
         simp only [spec_ReadReply.l0] at H
         by_cases c98 : 6 < ((rd_T100 t3.1.f2 0).f2.length : Int)
         case neg => exact zno c98 H
         replace H := zpos c98 H
         replace c98 := eq_true c98
         have c98n : (6 < (rd_T100 t3.1.f2 0).f2.length) = True := eq_true (by have := of_eq_true c98; omega)
         obtain ⟨ad99, B99_2, d99_2, hq99, e99_0, e99_1, e99_2, m99_2, y99_2⟩ := at_T100 y17_2 6 (of_eq_true (eq_true (by decide))) (of_eq_true c98)
         obtain rfl := Option.some.inj hq99
         (try (have e99_0' := e99_0; simp only [Int.toNat_zero, Int.reduceToNat, Int.toNat_natCast, Nat.zero_mul, Nat.one_mul, Nat.zero_add, Nat.add_zero, Addr.add_zero', Addr.add_succ', Nat.reduceMul, Nat.reduceAdd] at e99_0'))
         (try (have e99_1' := e99_1; simp only [Int.toNat_zero, Int.reduceToNat, Int.toNat_natCast, Nat.zero_mul, Nat.one_mul, Nat.zero_add, Nat.add_zero, Addr.add_zero', Addr.add_succ', Nat.reduceMul, Nat.reduceAdd] at e99_1'))
         (try (have e99_2' := e99_2; simp only [Int.toNat_zero, Int.reduceToNat, Int.toNat_natCast, Nat.zero_mul, Nat.one_mul, Nat.zero_add, Nat.add_zero, Addr.add_zero', Addr.add_succ', Nat.reduceMul, Nat.reduceAdd] at e99_2'))
         have e99_0_99 := (hV.keepc HS e99_0)
         have e99_1_99 := (hV.keepc HS e99_1)
         have e99_2_99 := (hV.keepc HS e99_2)
         (try have e99_0'_99 := (hV.keepc HS e99_0'))
         (try have e99_1'_99 := (hV.keepc HS e99_1'))
         (try have e99_2'_99 := (hV.keepc HS e99_2'))
         by_cases c100 : x96 < ((rd_T100 ((rd_T100 t3.1.f2 0).f2) 6).f2.length : Int)
         · replace H := zpos c100 H
           replace c100 := eq_true c100
           have e99_0_101 := (hV.keepc HS e99_0)
           have e99_1_101 := (hV.keepc HS e99_1)
           have e99_2_101 := (hV.keepc HS e99_2)
           by_cases c102 : 0 ≤ x96
           case neg => exact zno c102 H
           replace H := zpos c102 H
           replace c102 := eq_true c102
           by_cases c103 : x96 < ((rd_T100 ((rd_T100 t3.1.f2 0).f2) 6).f2.length : Int)
           case neg => exact zno c103 H
           replace H := zpos c103 H
           replace c103 := eq_true c103
           obtain ⟨ad104, B104_2, d104_2, rfl, e104_0, e104_1, e104_2, m104_2, y104_2⟩ := at_T100 y99_2 x96 (of_eq_true c102) (of_eq_true c103)
           have e104_0_104 := (hV.keepc HS e104_0)
           have e104_1_104 := (hV.keepc HS e104_1)
           have e104_2_104 := (hV.keepc HS e104_2)
           replace H := zbind H; obtain ⟨t105, ht105, H⟩ := H
           go_upto_if 114 with (first | ((with_reducible refine gate_dst (N := 110) rfl ?_); refine ev_call rfl Try.func54 (by kernel_rfl) rfl #[.agg #[.int .i64 ((rd_T100 ((rd_T100 ((rd_T100 t3.1.f2 0).f2) 6).f2) x96).f0), .string ((rd_T100 ((rd_T100 ((rd_T100 t3.1.f2 0).f2) 6).f2) x96).f1), .slice B104_2 (rd_T100 ((rd_T100 ((rd_T100 t3.1.f2 0).f2) 6).f2) x96).f2.length d104_2], .int .i64 4] rfl (by simp only [List.map_toArray, List.map_cons, List.map_nil]; rfl) ?_; refine (spec_l09Kids.calls ht105.out (hV.ro km100 HS y104_2) m104_2).mono ?_; rintro _ wt105 ⟨rfl, HQ⟩; refine ⟨_, rfl, ?_⟩; replace HS := HS.call HQ; clear HQ; (try clear F); (try simp only [hpn, hpm] at HS); have F := HS.boxes; simp only [boxFacts, and_true] at F))
           by_cases c107 : t105.2 = true
           · replace H := zpos c107 H
             (try simp only [c107, dcn])
             (try go_wp2)
             by_cases c301001 : 2 < ((rd_T100 ((rd_T100 ((rd_T100 t3.1.f2 0).f2) 6).f2) x96).f2.length : Int)
             case neg => exact zno c301001 H
             replace H := zpos c301001 H
             replace c301001 := eq_true c301001
             have c301001n : (2 < (rd_T100 ((rd_T100 ((rd_T100 t3.1.f2 0).f2) 6).f2) x96).f2.length) = True := eq_true (by have := of_eq_true c301001; omega)
             obtain ⟨ad301999, B301999_2, d301999_2, rfl, e301999_0, e301999_1, e301999_2, m301999_2, y301999_2⟩ := at_T100 y104_2 2 (of_eq_true (eq_true (by decide))) (of_eq_true c301001); (try (have e301999_0' := e301999_0; simp only [Int.toNat_zero, Int.reduceToNat, Int.toNat_natCast, Nat.zero_mul, Nat.one_mul, Nat.zero_add, Nat.add_zero, Addr.add_zero', Addr.add_succ', Nat.reduceMul, Nat.reduceAdd] at e301999_0')); (try (have e301999_1' := e301999_1; simp only [Int.toNat_zero, Int.reduceToNat, Int.toNat_natCast, Nat.zero_mul, Nat.one_mul, Nat.zero_add, Nat.add_zero, Addr.add_zero', Addr.add_succ', Nat.reduceMul, Nat.reduceAdd] at e301999_1')); (try (have e301999_2' := e301999_2; simp only [Int.toNat_zero, Int.reduceToNat, Int.toNat_natCast, Nat.zero_mul, Nat.one_mul, Nat.zero_add, Nat.add_zero, Addr.add_zero', Addr.add_succ', Nat.reduceMul, Nat.reduceAdd] at e301999_2'))
             replace H := zbind H; obtain ⟨t303001, ht303001, H⟩ := H
             by_cases c305001 : 3 < ((rd_T100 ((rd_T100 ((rd_T100 t3.1.f2 0).f2) 6).f2) x96).f2.length : Int)
             case neg => exact zno c305001 H
             replace H := zpos c305001 H
             replace c305001 := eq_true c305001
             have c305001n : (3 < (rd_T100 ((rd_T100 ((rd_T100 t3.1.f2 0).f2) 6).f2) x96).f2.length) = True := eq_true (by have := of_eq_true c305001; omega)
             obtain ⟨ad305999, B305999_2, d305999_2, hq305999, e305999_0, e305999_1, e305999_2, m305999_2, y305999_2⟩ := at_T100 y104_2 3 (of_eq_true (eq_true (by decide))) (of_eq_true c305001); obtain rfl := Option.some.inj hq305999; (try (have e305999_0' := e305999_0; simp only [Int.toNat_zero, Int.reduceToNat, Int.toNat_natCast, Nat.zero_mul, Nat.one_mul, Nat.zero_add, Nat.add_zero, Addr.add_zero', Addr.add_succ', Nat.reduceMul, Nat.reduceAdd] at e305999_0')); (try (have e305999_1' := e305999_1; simp only [Int.toNat_zero, Int.reduceToNat, Int.toNat_natCast, Nat.zero_mul, Nat.one_mul, Nat.zero_add, Nat.add_zero, Addr.add_zero', Addr.add_succ', Nat.reduceMul, Nat.reduceAdd] at e305999_1')); (try (have e305999_2' := e305999_2; simp only [Int.toNat_zero, Int.reduceToNat, Int.toNat_natCast, Nat.zero_mul, Nat.one_mul, Nat.zero_add, Nat.add_zero, Addr.add_zero', Addr.add_succ', Nat.reduceMul, Nat.reduceAdd] at e305999_2'))
             replace H := zbind H; obtain ⟨t307001, ht307001, H⟩ := H
             refine dr_start [10] HS #[false, false, false, false, false, false, false, false, false, false, false] (by kernel_rfl) rfl rfl spec_ReadReply.tT20 (fun w109 HT HS HH => ?_)
             (try clear F)
             refine join_ 0 #[true, true, true, true, true, true, true, true, true, true, true] (fun ((v303002, v307002, g14, pe117, pe118, pe121, pe122) : Value × Value × Nat × Value × Value × Value × Value) => ([(116, .slice (some ad301999) (rd_T100 ((rd_T100 ((rd_T100 t3.1.f2 0).f2) 6).f2) x96).f2.length d104_2), (117, pe117), (118, pe118), (119, v303002), (120, .slice (some ad301999) (rd_T100 ((rd_T100 ((rd_T100 t3.1.f2 0).f2) 6).f2) x96).f2.length d104_2), (121, pe121), (122, pe122), (123, v307002), (124, .agg #[.int .i64 0, .int .i64 0, v303002, v307002]), (14, .pointer (some ⟨g14, 0, none⟩))] : List (Tmp × Value))) (fun ((v303002, v307002, g14, pe117, pe118, pe121, pe122) : Value × Value × Nat × Value × Value × Value × Value) w' => Hp A6 wt3 w' [.box g2 [.string (⟨#[]⟩ : ByteArray), .int .i64 0, .int .i64 0, .int .i64 0, .int .i64 0, .int .i64 0, .slice none 0 0, .string (⟨#[]⟩ : ByteArray)] 40, .box g4 [.int .i64 t3.1.f0, .string t3.1.f1, .slice (some ad17) t3.1.f2.length d4] 100, .box g10 [.string ((rd_T100 ((rd_T100 t3.1.f2 0).f2) 0).f1), .int .i64 t26.1, .int .i64 t32.1, .int .i64 t38.1, .int .i64 t44.1, .int .i64 t50.1, .slice B95 l94.length d95, .string ((rd_T100 t3.1.f2 1).f1)] 40, .own (Zd.slice 109 q109) l94 [.slice B95 l94.length d95], .own (Zd.slice 9 Zd.string) t303001 [v303002], .own (Zd.slice 9 Zd.string) t307001 [v307002], .box g14 [.int .i64 0, .int .i64 0, v303002, v307002] 109]) ?_ ?_
             rotate_left
             · intro hJ
               refine drq_of [(0, some 116), (1, some 117)] ?_
               repeat (first | (refine drq_pure HT (v := ?_) (a' := ?_) rfl rfl (by kernel_rfl) (fun _ _ _ h => h) (.inl ⟨by rfl, ?_⟩) ?_ ?_; rotate_left; (intro w'; go_simp; with_reducible rfl); rotate_left; (simp only [Act.put, List.setIfInBounds_toArray, List.set_cons_zero, List.set_cons_succ, i64_w, i32_w]; rfl)))
               refine drq_end ?_
               refine dr_take 2 (some 118) HT HH (v := ?_) (a' := ?_) rfl rfl (by kernel_rfl) (fun _ _ _ h => h) (.inl ⟨by rfl, ?_⟩) ?_ ?_
               rotate_left
               · rintro w' ⟨rs', HS'⟩; have e301999_0 := (hV.keepc HS' e301999_0); have e301999_1 := (hV.keepc HS' e301999_1); have e301999_2 := (hV.keepc HS' e301999_2); (try simp only [Int.toNat_zero, Int.reduceToNat, Int.toNat_natCast, Nat.zero_mul, Nat.one_mul, Nat.zero_add, Nat.add_zero, Addr.add_zero', Addr.add_succ', Nat.reduceMul, Nat.reduceAdd] at e301999_0 e301999_1 e301999_2); go_simp; with_reducible rfl
               rotate_left
               · simp only [Act.put, List.setIfInBounds_toArray, List.set_cons_zero, List.set_cons_succ, i64_w, i32_w]; rfl
               refine drq_of [(4, some 120), (5, some 121)] ?_
               repeat (first | (refine drq_pure HT (v := ?_) (a' := ?_) rfl rfl (by kernel_rfl) (fun _ _ _ h => h) (.inl ⟨by rfl, ?_⟩) ?_ ?_; rotate_left; (intro w'; go_simp; with_reducible rfl); rotate_left; (simp only [Act.put, List.setIfInBounds_toArray, List.set_cons_zero, List.set_cons_succ, i64_w, i32_w]; rfl)))
               refine drq_end ?_
               refine dr_take 6 (some 122) HT HH (v := ?_) (a' := ?_) rfl rfl (by kernel_rfl) (fun _ _ _ h => h) (.inl ⟨by rfl, ?_⟩) ?_ ?_
               rotate_left
               · rintro w' ⟨rs', HS'⟩; have e305999_0 := (hV.keepc HS' e305999_0); have e305999_1 := (hV.keepc HS' e305999_1); have e305999_2 := (hV.keepc HS' e305999_2); (try simp only [Int.toNat_zero, Int.reduceToNat, Int.toNat_natCast, Nat.zero_mul, Nat.one_mul, Nat.zero_add, Nat.add_zero, Addr.add_zero', Addr.add_succ', Nat.reduceMul, Nat.reduceAdd] at e305999_0 e305999_1 e305999_2); go_simp; with_reducible rfl
               rotate_left
               · simp only [Act.put, List.setIfInBounds_toArray, List.set_cons_zero, List.set_cons_succ, i64_w, i32_w]; rfl
               refine dr_any [3, 9] HT (by kernel_rfl) (by decide) (AllReadyL.cons rfl (by decide) (fun K hK => ?_) (AllReadyL.cons rfl (by decide) (fun K hK => ?_) AllReadyL.nil))
               · refine goes_ Try.func56 (by kernel_rfl) rfl #[.agg #[.int .i64 ((rd_T100 ((rd_T100 ((rd_T100 ((rd_T100 t3.1.f2 0).f2) 6).f2) x96).f2) 2).f0), .string ((rd_T100 ((rd_T100 ((rd_T100 ((rd_T100 t3.1.f2 0).f2) 6).f2) x96).f2) 2).f1), .slice B301999_2 (rd_T100 ((rd_T100 ((rd_T100 ((rd_T100 t3.1.f2 0).f2) 6).f2) x96).f2) 2).f2.length d301999_2]] (by rfl) rfl rfl (by simp only [List.map_toArray, List.map_cons, List.map_nil]; rfl) ?_; refine (spec_l09TextsIn.calls ht303001.out (hV.ro km100 HS y301999_2) m301999_2).mono ?_; rintro _ wt303001 ⟨v303002, rfl, HQ⟩; refine ⟨_, rfl, ?_⟩; replace HS := HS.call HQ; clear HQ; (try clear F); obtain ⟨B303002, d303002, rfl, m303002⟩ := HS.form 4 rfl
                 (try simp only [hpn, hpm] at HS)
                 have F := HS.boxes; simp only [boxFacts, and_true] at F
                 refine hK.out _ _ ⟨_, HS⟩ (fun HH => ?_)
                 clear hK K
                 refine norm_ (a' := ?_) ?_ ?_
                 rotate_left
                 · show Act.put _ (some 119) _ = _; simp only [Act.put, List.setIfInBounds_toArray, List.set_cons_zero, List.set_cons_succ, i64_w, i32_w, c14, c15, c20, c107]; rfl
                 refine dr_any [7, 9] HT (by kernel_rfl) (by decide) (AllReadyL.cons rfl (by decide) (fun K hK => ?_) (AllReadyL.cons rfl (by decide) (fun K hK => ?_) AllReadyL.nil))
                 · refine goes_ Try.func56 (by kernel_rfl) rfl #[.agg #[.int .i64 ((rd_T100 ((rd_T100 ((rd_T100 ((rd_T100 t3.1.f2 0).f2) 6).f2) x96).f2) 3).f0), .string ((rd_T100 ((rd_T100 ((rd_T100 ((rd_T100 t3.1.f2 0).f2) 6).f2) x96).f2) 3).f1), .slice B305999_2 (rd_T100 ((rd_T100 ((rd_T100 ((rd_T100 t3.1.f2 0).f2) 6).f2) x96).f2) 3).f2.length d305999_2]] (by rfl) rfl rfl (by simp only [List.map_toArray, List.map_cons, List.map_nil]; rfl) ?_; refine (spec_l09TextsIn.calls ht307001.out (hV.ro km100 HS y305999_2) m305999_2).mono ?_; rintro _ wt307001 ⟨v307002, rfl, HQ⟩; refine ⟨_, rfl, ?_⟩; replace HS := HS.call HQ; clear HQ; (try clear F); obtain ⟨B307002, d307002, rfl, m307002⟩ := HS.form 5 rfl
                   (try simp only [hpn, hpm] at HS)
                   have F := HS.boxes; simp only [boxFacts, and_true] at F
                   refine hK.out _ _ ⟨_, HS⟩ (fun HH => ?_)
                   clear hK K
                   refine norm_ (a' := ?_) ?_ ?_
                   rotate_left
                   · show Act.put _ (some 123) _ = _; simp only [Act.put, List.setIfInBounds_toArray, List.set_cons_zero, List.set_cons_succ, i64_w, i32_w, c14, c15, c20, c107]; rfl
                   refine drq_of [(8, some 124)] ?_
                   repeat (first | (refine drq_pure HT (v := ?_) (a' := ?_) rfl rfl (by kernel_rfl) (fun _ _ _ h => h) (.inl ⟨by rfl, ?_⟩) ?_ ?_; rotate_left; (intro w'; go_simp; with_reducible rfl); rotate_left; (simp only [Act.put, List.setIfInBounds_toArray, List.set_cons_zero, List.set_cons_succ, i64_w, i32_w]; rfl)))
                   refine drq_end ?_
                   refine dr_one 9 HT rfl (by kernel_rfl) (by decide) (fun K hK => ?_)
                   refine if_wp (by rfl) ?_; refine wp_box HS (by first | (go_simp; done) | (go_simp; rfl)) rfl ?_; clear HS; (try clear F); intro g14 w14 HS
                   (try simp only [hpn, hpm] at HS)
                   have F := HS.boxes; simp only [boxFacts, and_true] at F
                   refine hK.out _ _ ⟨_, HS⟩ (fun HH => ?_)
                   clear hK K
                   refine norm_ (a' := ?_) ?_ ?_
                   rotate_left
                   · show Act.put _ (some 14) _ = _; simp only [Act.put, List.setIfInBounds_toArray, List.set_cons_zero, List.set_cons_succ, i64_w, i32_w, c14, c15, c20, c107]; rfl
                   refine dr_last 10 HT rfl (by kernel_rfl) (by decide) (fun K hK => ?_)
                   refine if_wp (by rfl) ?_; refine wp_store 6 0 HS (seg := [.int .i64 0, .int .i64 0, .slice B303002 t303001.length d303002, .slice B307002 t307001.length d307002]) rfl rfl rfl rfl rfl rfl (by kernel_rfl) (by simp [wrt]) (by simp [Value.oneCell']) ?_; clear HS; (try clear F); intro w310001 HS
                   (try simp only [hpn, hpm] at HS)
                   have F := HS.boxes; simp only [boxFacts, and_true] at F
                   refine hK.out _ _ ?_
                   clear hK K
                   refine norm_ ?_ (hJ (.slice B303002 t303001.length d303002, .slice B307002 t307001.length d307002, g14, .pointer (some (ad301999.add 6)), .agg #[.int .i64 ((rd_T100 ((rd_T100 ((rd_T100 ((rd_T100 t3.1.f2 0).f2) 6).f2) x96).f2) 2).f0), .string ((rd_T100 ((rd_T100 ((rd_T100 ((rd_T100 t3.1.f2 0).f2) 6).f2) x96).f2) 2).f1), .slice B301999_2 (rd_T100 ((rd_T100 ((rd_T100 ((rd_T100 t3.1.f2 0).f2) 6).f2) x96).f2) 2).f2.length d301999_2], .pointer (some (ad301999.add 9)), .agg #[.int .i64 ((rd_T100 ((rd_T100 ((rd_T100 ((rd_T100 t3.1.f2 0).f2) 6).f2) x96).f2) 3).f0), .string ((rd_T100 ((rd_T100 ((rd_T100 ((rd_T100 t3.1.f2 0).f2) 6).f2) x96).f2) 3).f1), .slice B305999_2 (rd_T100 ((rd_T100 ((rd_T100 ((rd_T100 t3.1.f2 0).f2) 6).f2) x96).f2) 3).f2.length d305999_2]) _ (HS.arr [some 0, some 1, some 2, some 3, some 4, some 5, some 6] (by decide)))
                   simp only [putAll, Act.put, List.setIfInBounds_toArray, List.set_cons_zero, List.set_cons_succ, i64_w, i32_w, c14, c15, c20, c107]
                   (try rfl)
                 · refine if_wp (by rfl) ?_; refine wp_box HS (by first | (go_simp; done) | (go_simp; rfl)) rfl ?_; clear HS; (try clear F); intro g14 w14 HS
                   (try simp only [hpn, hpm] at HS)
                   have F := HS.boxes; simp only [boxFacts, and_true] at F
                   refine hK.out _ _ ⟨_, HS⟩ (fun HH => ?_)
                   clear hK K
                   refine norm_ (a' := ?_) ?_ ?_
                   rotate_left
                   · show Act.put _ (some 14) _ = _; simp only [Act.put, List.setIfInBounds_toArray, List.set_cons_zero, List.set_cons_succ, i64_w, i32_w, c14, c15, c20, c107]; rfl
                   refine dr_one 7 HT rfl (by kernel_rfl) (by decide) (fun K hK => ?_)
                   refine goes_ Try.func56 (by kernel_rfl) rfl #[.agg #[.int .i64 ((rd_T100 ((rd_T100 ((rd_T100 ((rd_T100 t3.1.f2 0).f2) 6).f2) x96).f2) 3).f0), .string ((rd_T100 ((rd_T100 ((rd_T100 ((rd_T100 t3.1.f2 0).f2) 6).f2) x96).f2) 3).f1), .slice B305999_2 (rd_T100 ((rd_T100 ((rd_T100 ((rd_T100 t3.1.f2 0).f2) 6).f2) x96).f2) 3).f2.length d305999_2]] (by rfl) rfl rfl (by simp only [List.map_toArray, List.map_cons, List.map_nil]; rfl) ?_; refine (spec_l09TextsIn.calls ht307001.out (hV.ro km100 HS y305999_2) m305999_2).mono ?_; rintro _ wt307001 ⟨v307002, rfl, HQ⟩; refine ⟨_, rfl, ?_⟩; replace HS := HS.call HQ; clear HQ; (try clear F); obtain ⟨B307002, d307002, rfl, m307002⟩ := HS.form 6 rfl
                   (try simp only [hpn, hpm] at HS)
                   have F := HS.boxes; simp only [boxFacts, and_true] at F
                   refine hK.out _ _ ⟨_, HS⟩ (fun HH => ?_)
                   clear hK K
                   refine norm_ (a' := ?_) ?_ ?_
                   rotate_left
                   · show Act.put _ (some 123) _ = _; simp only [Act.put, List.setIfInBounds_toArray, List.set_cons_zero, List.set_cons_succ, i64_w, i32_w, c14, c15, c20, c107]; rfl
                   refine drq_of [(8, some 124)] ?_
                   repeat (first | (refine drq_pure HT (v := ?_) (a' := ?_) rfl rfl (by kernel_rfl) (fun _ _ _ h => h) (.inl ⟨by rfl, ?_⟩) ?_ ?_; rotate_left; (intro w'; go_simp; with_reducible rfl); rotate_left; (simp only [Act.put, List.setIfInBounds_toArray, List.set_cons_zero, List.set_cons_succ, i64_w, i32_w]; rfl)))
                   refine drq_end ?_
                   refine dr_last 10 HT rfl (by kernel_rfl) (by decide) (fun K hK => ?_)
                   refine if_wp (by rfl) ?_; refine wp_store 5 0 HS (seg := [.int .i64 0, .int .i64 0, .slice B303002 t303001.length d303002, .slice B307002 t307001.length d307002]) rfl rfl rfl rfl rfl rfl (by kernel_rfl) (by simp [wrt]) (by simp [Value.oneCell']) ?_; clear HS; (try clear F); intro w310001 HS
                   (try simp only [hpn, hpm] at HS)
                   have F := HS.boxes; simp only [boxFacts, and_true] at F
                   refine hK.out _ _ ?_
                   clear hK K
                   refine norm_ ?_ (hJ (.slice B303002 t303001.length d303002, .slice B307002 t307001.length d307002, g14, .pointer (some (ad301999.add 6)), .agg #[.int .i64 ((rd_T100 ((rd_T100 ((rd_T100 ((rd_T100 t3.1.f2 0).f2) 6).f2) x96).f2) 2).f0), .string ((rd_T100 ((rd_T100 ((rd_T100 ((rd_T100 t3.1.f2 0).f2) 6).f2) x96).f2) 2).f1), .slice B301999_2 (rd_T100 ((rd_T100 ((rd_T100 ((rd_T100 t3.1.f2 0).f2) 6).f2) x96).f2) 2).f2.length d301999_2], .pointer (some (ad301999.add 9)), .agg #[.int .i64 ((rd_T100 ((rd_T100 ((rd_T100 ((rd_T100 t3.1.f2 0).f2) 6).f2) x96).f2) 3).f0), .string ((rd_T100 ((rd_T100 ((rd_T100 ((rd_T100 t3.1.f2 0).f2) 6).f2) x96).f2) 3).f1), .slice B305999_2 (rd_T100 ((rd_T100 ((rd_T100 ((rd_T100 t3.1.f2 0).f2) 6).f2) x96).f2) 3).f2.length d305999_2]) _ (HS.arr [some 0, some 1, some 2, some 3, some 4, some 6, some 5] (by decide)))
                   simp only [putAll, Act.put, List.setIfInBounds_toArray, List.set_cons_zero, List.set_cons_succ, i64_w, i32_w, c14, c15, c20, c107]
                   (try rfl)
               · refine if_wp (by rfl) ?_; refine wp_box HS (by first | (go_simp; done) | (go_simp; rfl)) rfl ?_; clear HS; (try clear F); intro g14 w14 HS
                 (try simp only [hpn, hpm] at HS)
                 have F := HS.boxes; simp only [boxFacts, and_true] at F
                 refine hK.out _ _ ⟨_, HS⟩ (fun HH => ?_)
                 clear hK K
                 refine norm_ (a' := ?_) ?_ ?_
                 rotate_left
                 · show Act.put _ (some 14) _ = _; simp only [Act.put, List.setIfInBounds_toArray, List.set_cons_zero, List.set_cons_succ, i64_w, i32_w, c14, c15, c20, c107]; rfl
                 refine dr_one 3 HT rfl (by kernel_rfl) (by decide) (fun K hK => ?_)
                 refine goes_ Try.func56 (by kernel_rfl) rfl #[.agg #[.int .i64 ((rd_T100 ((rd_T100 ((rd_T100 ((rd_T100 t3.1.f2 0).f2) 6).f2) x96).f2) 2).f0), .string ((rd_T100 ((rd_T100 ((rd_T100 ((rd_T100 t3.1.f2 0).f2) 6).f2) x96).f2) 2).f1), .slice B301999_2 (rd_T100 ((rd_T100 ((rd_T100 ((rd_T100 t3.1.f2 0).f2) 6).f2) x96).f2) 2).f2.length d301999_2]] (by rfl) rfl rfl (by simp only [List.map_toArray, List.map_cons, List.map_nil]; rfl) ?_; refine (spec_l09TextsIn.calls ht303001.out (hV.ro km100 HS y301999_2) m301999_2).mono ?_; rintro _ wt303001 ⟨v303002, rfl, HQ⟩; refine ⟨_, rfl, ?_⟩; replace HS := HS.call HQ; clear HQ; (try clear F); obtain ⟨B303002, d303002, rfl, m303002⟩ := HS.form 5 rfl
                 (try simp only [hpn, hpm] at HS)
                 have F := HS.boxes; simp only [boxFacts, and_true] at F
                 refine hK.out _ _ ⟨_, HS⟩ (fun HH => ?_)
                 clear hK K
                 refine norm_ (a' := ?_) ?_ ?_
                 rotate_left
                 · show Act.put _ (some 119) _ = _; simp only [Act.put, List.setIfInBounds_toArray, List.set_cons_zero, List.set_cons_succ, i64_w, i32_w, c14, c15, c20, c107]; rfl
                 refine dr_one 7 HT rfl (by kernel_rfl) (by decide) (fun K hK => ?_)
                 refine goes_ Try.func56 (by kernel_rfl) rfl #[.agg #[.int .i64 ((rd_T100 ((rd_T100 ((rd_T100 ((rd_T100 t3.1.f2 0).f2) 6).f2) x96).f2) 3).f0), .string ((rd_T100 ((rd_T100 ((rd_T100 ((rd_T100 t3.1.f2 0).f2) 6).f2) x96).f2) 3).f1), .slice B305999_2 (rd_T100 ((rd_T100 ((rd_T100 ((rd_T100 t3.1.f2 0).f2) 6).f2) x96).f2) 3).f2.length d305999_2]] (by rfl) rfl rfl (by simp only [List.map_toArray, List.map_cons, List.map_nil]; rfl) ?_; refine (spec_l09TextsIn.calls ht307001.out (hV.ro km100 HS y305999_2) m305999_2).mono ?_; rintro _ wt307001 ⟨v307002, rfl, HQ⟩; refine ⟨_, rfl, ?_⟩; replace HS := HS.call HQ; clear HQ; (try clear F); obtain ⟨B307002, d307002, rfl, m307002⟩ := HS.form 6 rfl
                 (try simp only [hpn, hpm] at HS)
                 have F := HS.boxes; simp only [boxFacts, and_true] at F
                 refine hK.out _ _ ⟨_, HS⟩ (fun HH => ?_)
                 clear hK K
                 refine norm_ (a' := ?_) ?_ ?_
                 rotate_left
                 · show Act.put _ (some 123) _ = _; simp only [Act.put, List.setIfInBounds_toArray, List.set_cons_zero, List.set_cons_succ, i64_w, i32_w, c14, c15, c20, c107]; rfl
                 refine drq_of [(8, some 124)] ?_
                 repeat (first | (refine drq_pure HT (v := ?_) (a' := ?_) rfl rfl (by kernel_rfl) (fun _ _ _ h => h) (.inl ⟨by rfl, ?_⟩) ?_ ?_; rotate_left; (intro w'; go_simp; with_reducible rfl); rotate_left; (simp only [Act.put, List.setIfInBounds_toArray, List.set_cons_zero, List.set_cons_succ, i64_w, i32_w]; rfl)))
                 refine drq_end ?_
                 refine dr_last 10 HT rfl (by kernel_rfl) (by decide) (fun K hK => ?_)
                 refine if_wp (by rfl) ?_; refine wp_store 4 0 HS (seg := [.int .i64 0, .int .i64 0, .slice B303002 t303001.length d303002, .slice B307002 t307001.length d307002]) rfl rfl rfl rfl rfl rfl (by kernel_rfl) (by simp [wrt]) (by simp [Value.oneCell']) ?_; clear HS; (try clear F); intro w310001 HS
                 (try simp only [hpn, hpm] at HS)
                 have F := HS.boxes; simp only [boxFacts, and_true] at F
                 refine hK.out _ _ ?_
                 clear hK K
                 refine norm_ ?_ (hJ (.slice B303002 t303001.length d303002, .slice B307002 t307001.length d307002, g14, .pointer (some (ad301999.add 6)), .agg #[.int .i64 ((rd_T100 ((rd_T100 ((rd_T100 ((rd_T100 t3.1.f2 0).f2) 6).f2) x96).f2) 2).f0), .string ((rd_T100 ((rd_T100 ((rd_T100 ((rd_T100 t3.1.f2 0).f2) 6).f2) x96).f2) 2).f1), .slice B301999_2 (rd_T100 ((rd_T100 ((rd_T100 ((rd_T100 t3.1.f2 0).f2) 6).f2) x96).f2) 2).f2.length d301999_2], .pointer (some (ad301999.add 9)), .agg #[.int .i64 ((rd_T100 ((rd_T100 ((rd_T100 ((rd_T100 t3.1.f2 0).f2) 6).f2) x96).f2) 3).f0), .string ((rd_T100 ((rd_T100 ((rd_T100 ((rd_T100 t3.1.f2 0).f2) 6).f2) x96).f2) 3).f1), .slice B305999_2 (rd_T100 ((rd_T100 ((rd_T100 ((rd_T100 t3.1.f2 0).f2) 6).f2) x96).f2) 3).f2.length d305999_2]) _ (HS.arr [some 0, some 1, some 2, some 3, some 5, some 6, some 4] (by decide)))
                 simp only [putAll, Act.put, List.setIfInBounds_toArray, List.set_cons_zero, List.set_cons_succ, i64_w, i32_w, c14, c15, c20, c107]
                 (try rfl)
             rintro ⟨v303002, v307002, g14, pe117, pe118, pe121, pe122⟩ w399999 HS
             obtain ⟨B303002, d303002, rfl, m303002⟩ := HS.form 4 rfl
             obtain ⟨B307002, d307002, rfl, m307002⟩ := HS.form 5 rfl
             have F := HS.boxes; simp only [boxFacts, and_true] at F
             refine norm_ (a' := ?_) ?_ ?_
             rotate_left
             · simp only [putAll, Act.put, List.setIfInBounds_toArray, List.set_cons_zero, List.set_cons_succ, i64_w, i32_w, c14, c15, c20, c107]; rfl
             refine done_ (done_of HT.out (by kernel_rfl)) ?_
             by_cases c111 : 0 < ((rd_T100 ((rd_T100 ((rd_T100 t3.1.f2 0).f2) 6).f2) x96).f2.length : Int)
             case neg => exact zno c111 H
             replace H := zpos c111 H
             replace c111 := eq_true c111
             have c111n : (0 < (rd_T100 ((rd_T100 ((rd_T100 t3.1.f2 0).f2) 6).f2) x96).f2.length) = True := eq_true (by have := of_eq_true c111; omega)
             obtain ⟨ad112, B112_2, d112_2, hq112, e112_0, e112_1, e112_2, m112_2, y112_2⟩ := at_T100 y104_2 0 (of_eq_true (eq_true (by decide))) (of_eq_true c111)
             obtain rfl := Option.some.inj hq112
             (try (have e112_0' := e112_0; simp only [Int.toNat_zero, Int.reduceToNat, Int.toNat_natCast, Nat.zero_mul, Nat.one_mul, Nat.zero_add, Nat.add_zero, Addr.add_zero', Addr.add_succ', Nat.reduceMul, Nat.reduceAdd] at e112_0'))
             (try (have e112_1' := e112_1; simp only [Int.toNat_zero, Int.reduceToNat, Int.toNat_natCast, Nat.zero_mul, Nat.one_mul, Nat.zero_add, Nat.add_zero, Addr.add_zero', Addr.add_succ', Nat.reduceMul, Nat.reduceAdd] at e112_1'))
             (try (have e112_2' := e112_2; simp only [Int.toNat_zero, Int.reduceToNat, Int.toNat_natCast, Nat.zero_mul, Nat.one_mul, Nat.zero_add, Nat.add_zero, Addr.add_zero', Addr.add_succ', Nat.reduceMul, Nat.reduceAdd] at e112_2'))
             have e112_0_112 := (hV.keepc HS e112_0)
             have e112_1_112 := (hV.keepc HS e112_1)
             have e112_2_112 := (hV.keepc HS e112_2)
             (try have e112_0'_112 := (hV.keepc HS e112_0'))
             (try have e112_1'_112 := (hV.keepc HS e112_1'))
             (try have e112_2'_112 := (hV.keepc HS e112_2'))
             replace H := zbind H; obtain ⟨t113, ht113, H⟩ := H
             by_cases c117 : 1 < ((rd_T100 ((rd_T100 ((rd_T100 t3.1.f2 0).f2) 6).f2) x96).f2.length : Int)
             case neg => exact zno c117 H
             replace H := zpos c117 H
             replace c117 := eq_true c117
             have c117n : (1 < (rd_T100 ((rd_T100 ((rd_T100 t3.1.f2 0).f2) 6).f2) x96).f2.length) = True := eq_true (by have := of_eq_true c117; omega)
             replace H := zbind H; obtain ⟨t119, ht119, H⟩ := H
             by_cases c125 : l94.length + 1 ≤ 2199023255552
             case neg => exact zno c125 H
             replace H := zpos c125 H
             replace c125 := eq_true c125
             replace H := zlets H; obtain ⟨y126, e_y126, H⟩ := H
             go_wp2_with (first | ((with_reducible refine gate_dst (N := 129) rfl ?_); refine ev_call rfl Try.func55 (by kernel_rfl) rfl #[.agg #[.int .i64 ((rd_T100 ((rd_T100 ((rd_T100 ((rd_T100 t3.1.f2 0).f2) 6).f2) x96).f2) 0).f0), .string ((rd_T100 ((rd_T100 ((rd_T100 ((rd_T100 t3.1.f2 0).f2) 6).f2) x96).f2) 0).f1), .slice B112_2 (rd_T100 ((rd_T100 ((rd_T100 ((rd_T100 t3.1.f2 0).f2) 6).f2) x96).f2) 0).f2.length d112_2]] rfl (by simp only [List.map_toArray, List.map_cons, List.map_nil]; rfl) ?_; refine (spec_IntIn.calls ht113.out (hV.ro km100 HS y112_2) m112_2).mono ?_; rintro _ wt113 ⟨rfl, HQ⟩; refine ⟨_, rfl, ?_⟩; replace HS := HS.call HQ; clear HQ; (try clear F); (try simp only [hpn, hpm] at HS); have F := HS.boxes; simp only [boxFacts, and_true] at F) | ((with_reducible refine gate_store (p := 132) rfl ?_); refine ev_store rfl 6 0 HS (seg := [.int .i64 t113.1]) rfl rfl rfl rfl rfl rfl (by kernel_rfl) (by simp [wrt]) (by simp [Value.oneCell']) ?_; clear HS; (try clear F); intro w115 HS; (try simp only [hpn, hpm] at HS); have F := HS.boxes; simp only [boxFacts, and_true] at F; obtain ⟨ad118, B118_2, d118_2, hq118, e118_0, e118_1, e118_2, m118_2, y118_2⟩ := at_T100 y104_2 1 (of_eq_true (eq_true (by decide))) (of_eq_true c117); obtain rfl := Option.some.inj hq118; (try (have e118_0' := e118_0; simp only [Int.toNat_zero, Int.reduceToNat, Int.toNat_natCast, Nat.zero_mul, Nat.one_mul, Nat.zero_add, Nat.add_zero, Addr.add_zero', Addr.add_succ', Nat.reduceMul, Nat.reduceAdd] at e118_0')); (try (have e118_1' := e118_1; simp only [Int.toNat_zero, Int.reduceToNat, Int.toNat_natCast, Nat.zero_mul, Nat.one_mul, Nat.zero_add, Nat.add_zero, Addr.add_zero', Addr.add_succ', Nat.reduceMul, Nat.reduceAdd] at e118_1')); (try (have e118_2' := e118_2; simp only [Int.toNat_zero, Int.reduceToNat, Int.toNat_natCast, Nat.zero_mul, Nat.one_mul, Nat.zero_add, Nat.add_zero, Addr.add_zero', Addr.add_succ', Nat.reduceMul, Nat.reduceAdd] at e118_2')); have e118_0_118 := (hV.keepc HS e118_0); have e118_1_118 := (hV.keepc HS e118_1); have e118_2_118 := (hV.keepc HS e118_2); (try have e118_0'_118 := (hV.keepc HS e118_0')); (try have e118_1'_118 := (hV.keepc HS e118_1')); (try have e118_2'_118 := (hV.keepc HS e118_2'))) | ((with_reducible refine gate_dst (N := 137) rfl ?_); refine ev_call rfl Try.func55 (by kernel_rfl) rfl #[.agg #[.int .i64 ((rd_T100 ((rd_T100 ((rd_T100 ((rd_T100 t3.1.f2 0).f2) 6).f2) x96).f2) 1).f0), .string ((rd_T100 ((rd_T100 ((rd_T100 ((rd_T100 t3.1.f2 0).f2) 6).f2) x96).f2) 1).f1), .slice B118_2 (rd_T100 ((rd_T100 ((rd_T100 ((rd_T100 t3.1.f2 0).f2) 6).f2) x96).f2) 1).f2.length d118_2]] rfl (by simp only [List.map_toArray, List.map_cons, List.map_nil]; rfl) ?_; refine (spec_IntIn.calls ht119.out (hV.ro km100 HS y118_2) m118_2).mono ?_; rintro _ wt119 ⟨rfl, HQ⟩; refine ⟨_, rfl, ?_⟩; replace HS := HS.call HQ; clear HQ; (try clear F); (try simp only [hpn, hpm] at HS); have F := HS.boxes; simp only [boxFacts, and_true] at F) | ((with_reducible refine gate_store (p := 140) rfl ?_); refine ev_store rfl 6 1 HS (seg := [.int .i64 t119.1]) rfl rfl rfl rfl rfl rfl (by kernel_rfl) (by simp [wrt]) (by simp [Value.oneCell']) ?_; clear HS; (try clear F); intro w121 HS; (try simp only [hpn, hpm] at HS); have F := HS.boxes; simp only [boxFacts, and_true] at F) | ((with_reducible refine gate_dst (N := 144) rfl ?_); refine ev_lit rfl q109 [4, 5] ([(⟨t113.1, t119.1, t303001, t307001⟩ : S109)] : List S109) ([.int .i64 t113.1, .int .i64 t119.1, .slice B303002 t303001.length d303002, .slice B307002 t307001.length d307002] ++ []) HS (by first | (go_simp; done) | (go_simp; rfl)) rfl rfl (Nat.le_of_ble_eq_true rfl) (MadeL.cons (js1 := [4, 5]) (c := [.int .i64 t113.1, .int .i64 t119.1, .slice B303002 t303001.length d303002, .slice B307002 t307001.length d307002]) rfl (fun S hd hh => q109_pack (x := (⟨t113.1, t119.1, t303001, t307001⟩ : S109)) hd (hh 4 (.own (Zd.slice 9 Zd.string) t303001 [.slice B303002 t303001.length d303002]) rfl) (hh 5 (.own (Zd.slice 9 Zd.string) t307001 [.slice B307002 t307001.length d307002]) rfl) (by decide)) MadeL.nil (by decide)) ?_; clear HS; (try clear F); intro v123 w123 HS; obtain ⟨B123, d123, rfl, m123⟩ := HS.formn 1 7 rfl rfl; (try simp only [hpn, hpm] at HS); have F := HS.boxes; simp only [boxFacts, and_true] at F) | ((with_reducible refine gate_dst (N := 145) rfl ?_); refine ev_append rfl q109 3 7 HS rfl rfl (by decide) rfl rfl rfl Try.underlying38 info109 rfl (by decide) (by decide) (by have := of_eq_true c125; first | omega | (simp only [List.length_cons, List.length_nil, List.length_append, Nat.zero_add] at this ⊢; omega)) ?_; clear HS; (try clear F); intro v126 w126 HS; rw [← e_y126.out] at HS; obtain ⟨B126, d126, rfl, m126⟩ := HS.form 8 rfl; (try simp only [hpn, hpm] at HS); have F := HS.boxes; simp only [boxFacts, and_true] at F) | ((with_reducible refine gate_store (p := 146) rfl ?_); refine ev_store rfl 2 6 HS (seg := [.slice B126 y126.length d126]) rfl rfl rfl rfl rfl rfl (by kernel_rfl) (by simp [wrt]) (by simp [Value.oneCell']) ?_; clear HS; (try clear F); intro w128 HS; (try simp only [hpn, hpm] at HS); have F := HS.boxes; simp only [boxFacts, and_true] at F))
             go_roundg k93
             case measure => have := HKk93.out; omega
             case rel => exact ⟨_, _, _, rfl, H, ⟨by have := HKk93.out; omega⟩, HS.pick [0, 1, 2, 8] (by decide) (by rfl)⟩
           · replace H := zneg c107 H
             replace c107 := eq_false_of_ne_true c107
             (try simp only [c107, dcn])
             obtain ⟨rfl, rfl⟩ := zsome2 H
             go_wp2_with (first | ((with_reducible refine gate_store (p := 2) rfl ?_); refine ev_store rfl 0 0 HS (seg := [.string (⟨#[]⟩ : ByteArray), .int .i64 0, .int .i64 0, .int .i64 0, .int .i64 0, .int .i64 0, .slice none 0 0, .string (⟨#[]⟩ : ByteArray)]) rfl rfl rfl rfl rfl rfl (by kernel_rfl) (by simp [wrt]) (by simp [Value.oneCell']) ?_; clear HS; (try clear F); intro w130 HS; (try simp only [hpn, hpm] at HS); have F := HS.boxes; simp only [boxFacts, and_true] at F))
             have HS := HB6 _ _ HS (Nat.le_of_ble_eq_true rfl)
             replace HS := HS.nil 109 q109
             exact bodyPost_ret (results_list (rs := [.cell 2 40, .tmp 3]) rfl (by simp) (.cell _ _ _ _ _ rfl (HS.boxAt (i := 0) rfl) Try.underlying40 rfl (by kernel_rfl) (.tmp .nil))) rfl ⟨_, rfl, HS.pick [5] (by decide) (by rfl)⟩
         · replace H := zneg c100 H
           replace c100 := eq_false c100
           replace H := zbind H; obtain ⟨t132, ht132, H⟩ := H
           by_cases c134 : t132.2 = true
           · replace H := zpos c134 H
             go_upto_if 158 with (first | ((with_reducible refine gate_dst (N := 149) rfl ?_); refine ev_call rfl Try.func57 (by kernel_rfl) rfl #[.agg #[.string ((rd_T100 ((rd_T100 t3.1.f2 0).f2) 0).f1), .int .i64 t26.1, .int .i64 t32.1, .int .i64 t38.1, .int .i64 t44.1, .int .i64 t50.1, .slice B95 l94.length d95, .string ((rd_T100 t3.1.f2 1).f1)]] rfl (by simp only [List.map_toArray, List.map_cons, List.map_nil]; rfl) ?_; refine (spec_ReplyText.calls ht132.out (HS.rd 3 rfl) m95).mono ?_; rintro _ wt132 ⟨rfl, HQ⟩; refine ⟨_, rfl, ?_⟩; replace HS := HS.call HQ; clear HQ; (try clear F); (try simp only [hpn, hpm] at HS); have F := HS.boxes; simp only [boxFacts, and_true] at F; (try simp only [c134])))
             by_cases c135 : t132.1.toList = a0.toList
             · replace H := zpos c135 H
               have c135a := beq_iff_eq.mpr c135
               have c135b := bne_eq_false_iff_eq.mpr c135
               clear c135
               (try simp only [c135a, c135b, dcn])
               obtain ⟨rfl, rfl⟩ := zsome2 H
               go_wp2_with (first | ((with_reducible refine gate_store (p := 2) rfl ?_); refine ev_store rfl 0 0 HS (seg := [.string ((rd_T100 ((rd_T100 t3.1.f2 0).f2) 0).f1), .int .i64 t26.1, .int .i64 t32.1, .int .i64 t38.1, .int .i64 t44.1, .int .i64 t50.1, .slice B95 l94.length d95, .string ((rd_T100 t3.1.f2 1).f1)]) rfl rfl rfl rfl rfl rfl (by kernel_rfl) (by simp [wrt]) (by simp [Value.oneCell']) ?_; clear HS; (try clear F); intro w136 HS; (try simp only [hpn, hpm] at HS); have F := HS.boxes; simp only [boxFacts, and_true] at F))
               have HS := HB6 _ _ HS (Nat.le_of_ble_eq_true rfl)
               exact bodyPost_ret (results_list (rs := [.cell 2 40, .tmp 3]) rfl (by simp) (.cell _ _ _ _ _ rfl (HS.boxAt (i := 0) rfl) Try.underlying40 rfl (by kernel_rfl) (.tmp .nil))) rfl ⟨_, rfl, HS.pick [4] (by decide) (by rfl)⟩
             · replace H := zneg c135 H
               have c135a := beq_eq_false_iff_ne.mpr c135
               have c135b := bne_iff_ne.mpr c135
               clear c135
               (try simp only [c135a, c135b, dcn])
               obtain ⟨rfl, rfl⟩ := zsome2 H
               go_wp2_with (first | ((with_reducible refine gate_store (p := 2) rfl ?_); refine ev_store rfl 0 0 HS (seg := [.string (⟨#[]⟩ : ByteArray), .int .i64 0, .int .i64 0, .int .i64 0, .int .i64 0, .int .i64 0, .slice none 0 0, .string (⟨#[]⟩ : ByteArray)]) rfl rfl rfl rfl rfl rfl (by kernel_rfl) (by simp [wrt]) (by simp [Value.oneCell']) ?_; clear HS; (try clear F); intro w138 HS; (try simp only [hpn, hpm] at HS); have F := HS.boxes; simp only [boxFacts, and_true] at F))
               have HS := HB6 _ _ HS (Nat.le_of_ble_eq_true rfl)
               replace HS := HS.nil 109 q109
               exact bodyPost_ret (results_list (rs := [.cell 2 40, .tmp 3]) rfl (by simp) (.cell _ _ _ _ _ rfl (HS.boxAt (i := 0) rfl) Try.underlying40 rfl (by kernel_rfl) (.tmp .nil))) rfl ⟨_, rfl, HS.pick [5] (by decide) (by rfl)⟩
           · replace H := zneg c134 H
             replace c134 := eq_false_of_ne_true c134
             obtain ⟨rfl, rfl⟩ := zsome2 H
             go_wp2_with (first | ((with_reducible refine gate_dst (N := 149) rfl ?_); refine ev_call rfl Try.func57 (by kernel_rfl) rfl #[.agg #[.string ((rd_T100 ((rd_T100 t3.1.f2 0).f2) 0).f1), .int .i64 t26.1, .int .i64 t32.1, .int .i64 t38.1, .int .i64 t44.1, .int .i64 t50.1, .slice B95 l94.length d95, .string ((rd_T100 t3.1.f2 1).f1)]] rfl (by simp only [List.map_toArray, List.map_cons, List.map_nil]; rfl) ?_; refine (spec_ReplyText.calls ht132.out (HS.rd 3 rfl) m95).mono ?_; rintro _ wt132 ⟨rfl, HQ⟩; refine ⟨_, rfl, ?_⟩; replace HS := HS.call HQ; clear HQ; (try clear F); (try simp only [hpn, hpm] at HS); have F := HS.boxes; simp only [boxFacts, and_true] at F; (try simp only [c134])) | ((with_reducible refine gate_store (p := 2) rfl ?_); refine ev_store rfl 0 0 HS (seg := [.string (⟨#[]⟩ : ByteArray), .int .i64 0, .int .i64 0, .int .i64 0, .int .i64 0, .int .i64 0, .slice none 0 0, .string (⟨#[]⟩ : ByteArray)]) rfl rfl rfl rfl rfl rfl (by kernel_rfl) (by simp [wrt]) (by simp [Value.oneCell']) ?_; clear HS; (try clear F); intro w140 HS; (try simp only [hpn, hpm] at HS); have F := HS.boxes; simp only [boxFacts, and_true] at F))
             have HS := HB6 _ _ HS (Nat.le_of_ble_eq_true rfl)
             replace HS := HS.nil 109 q109
             exact bodyPost_ret (results_list (rs := [.cell 2 40, .tmp 3]) rfl (by simp) (.cell _ _ _ _ _ rfl (HS.boxAt (i := 0) rfl) Try.underlying40 rfl (by kernel_rfl) (.tmp .nil))) rfl ⟨_, rfl, HS.pick [5] (by decide) (by rfl)⟩
     · replace H := zneg c20 H
       replace c20 := eq_false_of_ne_true c20
       (try simp only [c20, dcn])
       obtain ⟨rfl, rfl⟩ := zsome2 H
       go_wp2_with (first | ((with_reducible refine gate_store (p := 2) rfl ?_); refine ev_store rfl 0 0 HS (seg := [.string (⟨#[]⟩ : ByteArray), .int .i64 0, .int .i64 0, .int .i64 0, .int .i64 0, .int .i64 0, .slice none 0 0, .string (⟨#[]⟩ : ByteArray)]) rfl rfl rfl rfl rfl rfl (by kernel_rfl) (by simp [wrt]) (by simp [Value.oneCell']) ?_; clear HS; (try clear F); intro w142 HS; (try simp only [hpn, hpm] at HS); have F := HS.boxes; simp only [boxFacts, and_true] at F))
       have HS := HB6 _ _ HS (Nat.le_of_ble_eq_true rfl)
       replace HS := HS.nil 109 q109
       exact bodyPost_ret (results_list (rs := [.cell 2 40, .tmp 3]) rfl (by simp) (.cell _ _ _ _ _ rfl (HS.boxAt (i := 0) rfl) Try.underlying40 rfl (by kernel_rfl) (.tmp .nil))) rfl ⟨_, rfl, HS.pick [3] (by decide) (by rfl)⟩
   · replace H := zneg c15 H
     replace c15 := eq_false_of_ne_true c15
     (try simp only [c15, dcn])
     obtain ⟨rfl, rfl⟩ := zsome2 H
     go_wp2_with (first | ((with_reducible refine gate_store (p := 2) rfl ?_); refine ev_store rfl 0 0 HS (seg := [.string (⟨#[]⟩ : ByteArray), .int .i64 0, .int .i64 0, .int .i64 0, .int .i64 0, .int .i64 0, .slice none 0 0, .string (⟨#[]⟩ : ByteArray)]) rfl rfl rfl rfl rfl rfl (by kernel_rfl) (by simp [wrt]) (by simp [Value.oneCell']) ?_; clear HS; (try clear F); intro w144 HS; (try simp only [hpn, hpm] at HS); have F := HS.boxes; simp only [boxFacts, and_true] at F))
     have HS := HB6 _ _ HS (Nat.le_of_ble_eq_true rfl)
     replace HS := HS.nil 109 q109
     exact bodyPost_ret (results_list (rs := [.cell 2 40, .tmp 3]) rfl (by simp) (.cell _ _ _ _ _ rfl (HS.boxAt (i := 0) rfl) Try.underlying40 rfl (by kernel_rfl) (.tmp .nil))) rfl ⟨_, rfl, HS.pick [3] (by decide) (by rfl)⟩
 · replace H := zneg c14 H
   replace c14 := eq_false_of_ne_true c14
   obtain ⟨rfl, rfl⟩ := zsome2 H
   go_wp2_with (first | ((with_reducible refine gate_dst (N := 2) rfl ?_); refine ev_box rfl HS (by first | (go_simp; done) | (go_simp; rfl)) rfl ?_; clear HS; (try clear F); intro g2 w2 HS; (try simp only [hpn, hpm] at HS); have F := HS.boxes; simp only [boxFacts, and_true] at F) | ((with_reducible refine gate_dst (N := 19) rfl ?_); refine ev_call rfl Try.func53 (by kernel_rfl) rfl #[.string a0] rfl (by simp only [List.map_toArray, List.map_cons, List.map_nil]; rfl) ?_; refine (spec_ReadItem.calls ht3.out).mono ?_; rintro _ wt3 ⟨v4, rfl, HQ⟩; refine ⟨_, rfl, ?_⟩; replace HS := HS.call HQ; clear HQ; (try clear F); obtain ⟨B4, d4, rfl, m4⟩ := HS.form 1 rfl; (try simp only [hpn, hpm] at HS); have F := HS.boxes; simp only [boxFacts, and_true] at F; refine HS.lend [0] (by decide) [.box g2 [.string (⟨#[]⟩ : ByteArray), .int .i64 0, .int .i64 0, .int .i64 0, .int .i64 0, .int .i64 0, .slice none 0 0, .string (⟨#[]⟩ : ByteArray)] 40] rfl (fun A6 HL HD HA HB6 => ?_); have gb6_0 := hide_rd HD 1 rfl (by decide); replace HS := HA; have hV := hide_view A6 wt3; clear HA HD HL; (try clear F); replace HS : Hp A6 wt3 _ [.box g2 [.string (⟨#[]⟩ : ByteArray), .int .i64 0, .int .i64 0, .int .i64 0, .int .i64 0, .int .i64 0, .slice none 0 0, .string (⟨#[]⟩ : ByteArray)] 40] := HS; have F := HS.boxes; simp only [boxFacts, and_true] at F) | ((with_reducible refine gate_dst (N := 4) rfl ?_); refine ev_box rfl HS (by first | (go_simp; done) | (go_simp; rfl)) rfl ?_; clear HS; (try clear F); intro g4 w4 HS; (try simp only [hpn, hpm] at HS); have F := HS.boxes; simp only [boxFacts, and_true] at F) | ((with_reducible refine gate_store (p := 4) rfl ?_); refine ev_store rfl 1 0 HS (seg := [.int .i64 t3.1.f0, .string t3.1.f1, .slice B4 t3.1.f2.length d4]) rfl rfl rfl rfl rfl rfl (by kernel_rfl) (by simp [wrt]) (by simp [Value.oneCell']) ?_; clear HS; (try clear F); intro w10 HS; (try simp only [hpn, hpm] at HS); have F := HS.boxes; simp only [boxFacts, and_true] at F) | ((with_reducible refine gate_dst (N := 24) rfl ?_); refine ev_call rfl Try.func54 (by kernel_rfl) rfl #[.agg #[.int .i64 t3.1.f0, .string t3.1.f1, .slice B4 t3.1.f2.length d4], .int .i64 2] rfl (by simp only [List.map_toArray, List.map_cons, List.map_nil]; rfl) ?_; refine (spec_l09Kids.calls ht12.out (hV.ro km100 HS gb6_0) m4).mono ?_; rintro _ wt12 ⟨rfl, HQ⟩; refine ⟨_, rfl, ?_⟩; replace HS := HS.call HQ; clear HQ; (try clear F); (try simp only [hpn, hpm] at HS); have F := HS.boxes; simp only [boxFacts, and_true] at F; (try simp only [c14])) | ((with_reducible refine gate_store (p := 2) rfl ?_); refine ev_store rfl 0 0 HS (seg := [.string (⟨#[]⟩ : ByteArray), .int .i64 0, .int .i64 0, .int .i64 0, .int .i64 0, .int .i64 0, .slice none 0 0, .string (⟨#[]⟩ : ByteArray)]) rfl rfl rfl rfl rfl rfl (by kernel_rfl) (by simp [wrt]) (by simp [Value.oneCell']) ?_; clear HS; (try clear F); intro w146 HS; (try simp only [hpn, hpm] at HS); have F := HS.boxes; simp only [boxFacts, and_true] at F))
   have HS := HB6 _ _ HS (Nat.le_of_ble_eq_true rfl)
   replace HS := HS.nil 109 q109
   exact bodyPost_ret (results_list (rs := [.cell 2 40, .tmp 3]) rfl (by simp) (.cell _ _ _ _ _ rfl (HS.boxAt (i := 0) rfl) Try.underlying40 rfl (by kernel_rfl) (.tmp .nil))) rfl ⟨_, rfl, HS.pick [3] (by decide) (by rfl)⟩
end Go.Proofs.Ytoaoncnbimcdgaa.F
