/- Functions of the program and of the law, and that their calls do what is written here. -/
import Derived.Test.YtoaoncnbimcdgaaDoorZgFnExactReadCertc
import Derived.Test.YtoaoncnbimcdgaaDoorZgFnExactReadCertg
namespace Go.Proofs.YtoaoncnbimcdgaaDoor.F
open Go.RowKit Go.Proofs.YtoaoncnbimcdgaaDoorW.PrintWords Go.Proofs.YtoaoncnbimcdgaaDoorW.PrintLast Go.Proofs.YtoaoncnbimcdgaaDoorW.PrintMore Go.Proofs.YtoaoncnbimcdgaaDoor.Z
attribute [local go_sem] max2_int min2_int max_two min_two max_three min_three max_four min_four
set_option linter.unusedVariables false
set_option linter.unusedSimpArgs false
set_option maxRecDepth 100000
/-! ### spec_ReadCert: function 28 -/
def spec_ReadCert.f (k : Nat) (a0 : ByteArray) : Option (S29 × Bool) := ((spec_ReadItem.f k a0).bind fun t3 => ((spec_l09Kids.f t3.1 2).bind fun t12 => (if t3.2 = true then (if t12.2 = true then (if 0 < (t3.1.f2.length : Int) then ((spec_l09Kids.f (rd_T65 t3.1.f2 0) 11).bind fun t18 => (if t18.2 = true then (if 2 < ((rd_T65 t3.1.f2 0).f2.length : Int) then (if ((rd_T65 ((rd_T65 t3.1.f2 0).f2) 2).f2.length : Int) = 2 then (if 1 < ((rd_T65 t3.1.f2 0).f2.length : Int) then (if 3 < ((rd_T65 t3.1.f2 0).f2.length : Int) then (if 4 < ((rd_T65 t3.1.f2 0).f2.length : Int) then (if 5 < ((rd_T65 t3.1.f2 0).f2.length : Int) then (if 8 < ((rd_T65 t3.1.f2 0).f2.length : Int) then ((spec_l09IntsIn.f k (rd_T65 ((rd_T65 t3.1.f2 0).f2) 8)).bind fun t120001 => (if 9 < ((rd_T65 t3.1.f2 0).f2.length : Int) then ((spec_l09TextsIn.f k (rd_T65 ((rd_T65 t3.1.f2 0).f2) 9)).bind fun t124001 => (if 10 < ((rd_T65 t3.1.f2 0).f2.length : Int) then ((spec_l09TextsIn.f k (rd_T65 ((rd_T65 t3.1.f2 0).f2) 10)).bind fun t128001 => (if 1 < (t3.1.f2.length : Int) then (if 0 < ((rd_T65 t3.1.f2 0).f2.length : Int) then ((spec_IntIn.f k (rd_T65 ((rd_T65 t3.1.f2 0).f2) 0)).bind fun t29 => (if 0 < ((rd_T65 ((rd_T65 t3.1.f2 0).f2) 2).f2.length : Int) then ((spec_IntIn.f k (rd_T65 ((rd_T65 ((rd_T65 t3.1.f2 0).f2) 2).f2) 0)).bind fun t36 => (if 1 < ((rd_T65 ((rd_T65 t3.1.f2 0).f2) 2).f2.length : Int) then ((spec_IntIn.f k (rd_T65 ((rd_T65 ((rd_T65 t3.1.f2 0).f2) 2).f2) 1)).bind fun t43 => (if 6 < ((rd_T65 t3.1.f2 0).f2.length : Int) then ((spec_IntIn.f k (rd_T65 ((rd_T65 t3.1.f2 0).f2) 6)).bind fun t49 => (if 7 < ((rd_T65 t3.1.f2 0).f2.length : Int) then ((spec_IntIn.f k (rd_T65 ((rd_T65 t3.1.f2 0).f2) 7)).bind fun t55 => ((spec_CertText.f k (⟨t29.1, (rd_T65 ((rd_T65 t3.1.f2 0).f2) 1).f1, (rd_T65 ((rd_T65 t3.1.f2 0).f2) 3).f1, t36.1, t43.1, (rd_T65 ((rd_T65 t3.1.f2 0).f2) 4).f1, (((rd_T65 ((rd_T65 t3.1.f2 0).f2) 5).f1).toList == ([255] : List UInt8)), t49.1, t55.1, t120001, t124001, t128001, (rd_T65 t3.1.f2 1).f1⟩ : S29)).bind fun t59 => (if t59.2 = true then (if t59.1.toList = a0.toList then (some ((⟨t29.1, (rd_T65 ((rd_T65 t3.1.f2 0).f2) 1).f1, (rd_T65 ((rd_T65 t3.1.f2 0).f2) 3).f1, t36.1, t43.1, (rd_T65 ((rd_T65 t3.1.f2 0).f2) 4).f1, (((rd_T65 ((rd_T65 t3.1.f2 0).f2) 5).f1).toList == ([255] : List UInt8)), t49.1, t55.1, t120001, t124001, t128001, (rd_T65 t3.1.f2 1).f1⟩ : S29), true)) else (some ((⟨0, (⟨#[]⟩ : ByteArray), (⟨#[]⟩ : ByteArray), 0, 0, (⟨#[]⟩ : ByteArray), false, 0, 0, ([] : List Int), ([] : List ByteArray), ([] : List ByteArray), (⟨#[]⟩ : ByteArray)⟩ : S29), false))) else (some ((⟨0, (⟨#[]⟩ : ByteArray), (⟨#[]⟩ : ByteArray), 0, 0, (⟨#[]⟩ : ByteArray), false, 0, 0, ([] : List Int), ([] : List ByteArray), ([] : List ByteArray), (⟨#[]⟩ : ByteArray)⟩ : S29), false))))) else none)) else none)) else none)) else none)) else none) else none)) else none)) else none)) else none) else none) else none) else none) else none) else (some ((⟨0, (⟨#[]⟩ : ByteArray), (⟨#[]⟩ : ByteArray), 0, 0, (⟨#[]⟩ : ByteArray), false, 0, 0, ([] : List Int), ([] : List ByteArray), ([] : List ByteArray), (⟨#[]⟩ : ByteArray)⟩ : S29), false))) else none) else (some ((⟨0, (⟨#[]⟩ : ByteArray), (⟨#[]⟩ : ByteArray), 0, 0, (⟨#[]⟩ : ByteArray), false, 0, 0, ([] : List Int), ([] : List ByteArray), ([] : List ByteArray), (⟨#[]⟩ : ByteArray)⟩ : S29), false)))) else none) else (some ((⟨0, (⟨#[]⟩ : ByteArray), (⟨#[]⟩ : ByteArray), 0, 0, (⟨#[]⟩ : ByteArray), false, 0, 0, ([] : List Int), ([] : List ByteArray), ([] : List ByteArray), (⟨#[]⟩ : ByteArray)⟩ : S29), false))) else (some ((⟨0, (⟨#[]⟩ : ByteArray), (⟨#[]⟩ : ByteArray), 0, 0, (⟨#[]⟩ : ByteArray), false, 0, 0, ([] : List Int), ([] : List ByteArray), ([] : List ByteArray), (⟨#[]⟩ : ByteArray)⟩ : S29), false)))))
def spec_ReadCert.T8 : Bool × List (List Nat × List Nat) := (true, [([], []), ([0], [0]), ([1], [1]), ([2], [2]), ([], []), ([4], [4]), ([5], [5]), ([6], [6]), ([], []), ([8], [8]), ([9], [9]), ([10], [10]), ([], []), ([12], [12]), ([13], [13]), ([14], [14]), ([15], [15]), ([], []), ([17], [17]), ([18], [18]), ([19], [19]), ([], []), ([21], [21]), ([22], [22]), ([23, 20], [23]), ([], []), ([25], [25]), ([26], [26]), ([27, 24], [27]), ([], []), ([29], [29]), ([30], [30]), ([31], [31]), ([3, 7, 11, 16, 20, 24, 28, 32], [3, 7, 11, 16, 20, 24, 28, 32]), ([], []), ([34, 33, 28, 0, 1, 2, 3, 4, 5, 6, 7, 8, 9, 10, 11, 12, 13, 14, 15, 16, 17, 18, 19, 20, 21, 22, 23, 24, 25, 26, 27, 28, 29, 30, 31, 32, 33, 34], [33, 34])])
theorem spec_ReadCert.tT8 : rtab .any (opsOf Tryd.f28 8) = spec_ReadCert.T8 := by kernel_rfl
set_option maxHeartbeats 16000000 in
theorem spec_ReadCert.calls {k : Nat} {a0 : ByteArray} {r1 : S29} {r2 : Bool} {w : World} (h : spec_ReadCert.f k a0 = some (r1, r2)) :
    Calls Tryd.prog 28 #[.string a0] w (fun e w' => ∃ v0_ v1_ v2_ : Value, e = .returned (.tuple #[.agg #[.int .i64 r1.f0, .string r1.f1, .string r1.f2, .int .i64 r1.f3, .int .i64 r1.f4, .string r1.f5, .bool r1.f6, .int .i64 r1.f7, .int .i64 r1.f8, v0_, v1_, v2_, .string r1.f12], .bool r2]) ∧ Hp noFP w w' [.own (Zd.slice 3 (Zd.int .i64)) r1.f9 [v0_], .own (Zd.slice 9 Zd.string) r1.f10 [v1_], .own (Zd.slice 9 Zd.string) r1.f11 [v2_]]) := by
 have HS := Hp.start w
 have H := Aside0.mk h
 clear h
 unfold spec_ReadCert.f at H
 go_enter Tryd.func28, Tryd.ntmps28
 replace H := zbind H; obtain ⟨t3, ht3, H⟩ := H
 replace H := zbind H; obtain ⟨t12, ht12, H⟩ := H
 by_cases c14 : t3.2 = true
 case neg =>
  replace H := zneg c14 H
  replace c14 := eq_false_of_ne_true c14
  obtain ⟨rfl, rfl⟩ := zsome2 H
  go_wp2_with (first | ((with_reducible refine gate_dst (N := 2) rfl ?_); refine ev_box rfl HS (by first | (go_simp; done) | (go_simp; rfl)) rfl ?_; clear HS; (try clear F); intro g2 w2 HS; (try simp only [hpn, hpm] at HS); have F := HS.boxes; simp only [bxn] at F) | ((with_reducible refine gate_dst (N := 15) rfl ?_); refine ev_call rfl Tryd.func47 (by kernel_rfl) rfl #[.string a0] rfl (by simp only [mpn]; rfl) ?_; refine (spec_ReadItem.calls ht3.out).mono ?_; rintro _ wt3 ⟨v4, rfl, HQ⟩; refine ⟨_, rfl, ?_⟩; replace HS := HS.call HQ; clear HQ; (try clear F); obtain ⟨B4, d4, rfl, m4⟩ := HS.form 1 rfl; (try simp only [hpn, hpm] at HS); have F := HS.boxes; simp only [bxn] at F; refine HS.lend [0] (by decide) [.box g2 [.int .i64 0, .string (⟨#[]⟩ : ByteArray), .string (⟨#[]⟩ : ByteArray), .int .i64 0, .int .i64 0, .string (⟨#[]⟩ : ByteArray), .bool false, .int .i64 0, .int .i64 0, .slice none 0 0, .slice none 0 0, .slice none 0 0, .string (⟨#[]⟩ : ByteArray)] 29] rfl (fun A6 HL HD HA HB6 => ?_); have gb6_0 := hide_rd HD 1 rfl (by decide); (try replace hgM := HS.hidec HL hgM); replace HS := HA; have hV := hide_view A6 wt3; clear HA HD HL; (try clear F); replace HS : Hp A6 wt3 _ [.box g2 [.int .i64 0, .string (⟨#[]⟩ : ByteArray), .string (⟨#[]⟩ : ByteArray), .int .i64 0, .int .i64 0, .string (⟨#[]⟩ : ByteArray), .bool false, .int .i64 0, .int .i64 0, .slice none 0 0, .slice none 0 0, .slice none 0 0, .string (⟨#[]⟩ : ByteArray)] 29] := HS; have F := HS.boxes; simp only [bxn] at F) | ((with_reducible refine gate_dst (N := 4) rfl ?_); refine ev_box rfl HS (by first | (go_simp; done) | (go_simp; rfl)) rfl ?_; clear HS; (try clear F); intro g4 w4 HS; (try simp only [hpn, hpm] at HS); have F := HS.boxes; simp only [bxn] at F) | ((with_reducible refine gate_store (p := 4) rfl ?_); refine ev_store rfl 1 0 HS (seg := [.int .i64 t3.1.f0, .string t3.1.f1, .slice B4 t3.1.f2.length d4]) rfl rfl rfl rfl rfl rfl (by kernel_rfl) (by simp [wrt]) (by simp [Value.oneCell']) ?_; clear HS; (try clear F); intro w10 HS; (try simp only [hpn, hpm] at HS); have F := HS.boxes; simp only [bxn] at F) | ((with_reducible refine gate_dst (N := 20) rfl ?_); refine ev_call rfl Tryd.func48 (by kernel_rfl) rfl #[.agg #[.int .i64 t3.1.f0, .string t3.1.f1, .slice B4 t3.1.f2.length d4], .int .i64 2] rfl (by simp only [mpn]; rfl) ?_; refine (spec_l09Kids.calls ht12.out (hV.ro km65 HS gb6_0) m4).mono ?_; rintro _ wt12 ⟨rfl, HQ⟩; refine ⟨_, rfl, ?_⟩; replace HS := HS.call HQ; clear HQ; (try clear F); (try simp only [hpn, hpm] at HS); have F := HS.boxes; simp only [bxn] at F; (try simp only [c14])) | ((with_reducible refine gate_store (p := 2) rfl ?_); refine ev_store rfl 0 0 HS (seg := [.int .i64 0, .string (⟨#[]⟩ : ByteArray), .string (⟨#[]⟩ : ByteArray), .int .i64 0, .int .i64 0, .string (⟨#[]⟩ : ByteArray), .bool false, .int .i64 0, .int .i64 0, .slice none 0 0, .slice none 0 0, .slice none 0 0, .string (⟨#[]⟩ : ByteArray)]) rfl rfl rfl rfl rfl rfl (by kernel_rfl) (by simp [wrt]) (by simp [Value.oneCell']) ?_; clear HS; (try clear F); intro w75 HS; (try simp only [hpn, hpm] at HS); have F := HS.boxes; simp only [bxn] at F))
  have HS := HB6 _ _ HS (Nat.le_of_ble_eq_true rfl)
  replace HS := HS.nil 3 (Zd.int .i64)
  replace HS := HS.nil 9 Zd.string
  replace HS := HS.nil 9 Zd.string
  exact bodyPost_ret (results_list (rs := [.cell 2 29, .tmp 3]) rfl (by simp) (.cell _ _ _ _ _ rfl (HS.boxAt (i := 0) rfl) Tryd.underlying29 rfl (by kernel_rfl) (.tmp .nil))) rfl ⟨_, _, _, rfl, HS.pick [3, 4, 5] (by decide) (by rfl)⟩
 replace H := zpos c14 H
 go_upto_if 28 with (first | ((with_reducible refine gate_dst (N := 2) rfl ?_); refine ev_box rfl HS (by first | (go_simp; done) | (go_simp; rfl)) rfl ?_; clear HS; (try clear F); intro g2 w2 HS; (try simp only [hpn, hpm] at HS); have F := HS.boxes; simp only [bxn] at F) | ((with_reducible refine gate_dst (N := 15) rfl ?_); refine ev_call rfl Tryd.func47 (by kernel_rfl) rfl #[.string a0] rfl (by simp only [mpn]; rfl) ?_; refine (spec_ReadItem.calls ht3.out).mono ?_; rintro _ wt3 ⟨v4, rfl, HQ⟩; refine ⟨_, rfl, ?_⟩; replace HS := HS.call HQ; clear HQ; (try clear F); obtain ⟨B4, d4, rfl, m4⟩ := HS.form 1 rfl; (try simp only [hpn, hpm] at HS); have F := HS.boxes; simp only [bxn] at F; refine HS.lend [0] (by decide) [.box g2 [.int .i64 0, .string (⟨#[]⟩ : ByteArray), .string (⟨#[]⟩ : ByteArray), .int .i64 0, .int .i64 0, .string (⟨#[]⟩ : ByteArray), .bool false, .int .i64 0, .int .i64 0, .slice none 0 0, .slice none 0 0, .slice none 0 0, .string (⟨#[]⟩ : ByteArray)] 29] rfl (fun A6 HL HD HA HB6 => ?_); have gb6_0 := hide_rd HD 1 rfl (by decide); (try replace hgM := HS.hidec HL hgM); replace HS := HA; have hV := hide_view A6 wt3; clear HA HD HL; (try clear F); replace HS : Hp A6 wt3 _ [.box g2 [.int .i64 0, .string (⟨#[]⟩ : ByteArray), .string (⟨#[]⟩ : ByteArray), .int .i64 0, .int .i64 0, .string (⟨#[]⟩ : ByteArray), .bool false, .int .i64 0, .int .i64 0, .slice none 0 0, .slice none 0 0, .slice none 0 0, .string (⟨#[]⟩ : ByteArray)] 29] := HS; have F := HS.boxes; simp only [bxn] at F) | ((with_reducible refine gate_dst (N := 4) rfl ?_); refine ev_box rfl HS (by first | (go_simp; done) | (go_simp; rfl)) rfl ?_; clear HS; (try clear F); intro g4 w4 HS; (try simp only [hpn, hpm] at HS); have F := HS.boxes; simp only [bxn] at F) | ((with_reducible refine gate_store (p := 4) rfl ?_); refine ev_store rfl 1 0 HS (seg := [.int .i64 t3.1.f0, .string t3.1.f1, .slice B4 t3.1.f2.length d4]) rfl rfl rfl rfl rfl rfl (by kernel_rfl) (by simp [wrt]) (by simp [Value.oneCell']) ?_; clear HS; (try clear F); intro w10 HS; (try simp only [hpn, hpm] at HS); have F := HS.boxes; simp only [bxn] at F) | ((with_reducible refine gate_dst (N := 20) rfl ?_); refine ev_call rfl Tryd.func48 (by kernel_rfl) rfl #[.agg #[.int .i64 t3.1.f0, .string t3.1.f1, .slice B4 t3.1.f2.length d4], .int .i64 2] rfl (by simp only [mpn]; rfl) ?_; refine (spec_l09Kids.calls ht12.out (hV.ro km65 HS gb6_0) m4).mono ?_; rintro _ wt12 ⟨rfl, HQ⟩; refine ⟨_, rfl, ?_⟩; replace HS := HS.call HQ; clear HQ; (try clear F); (try simp only [hpn, hpm] at HS); have F := HS.boxes; simp only [bxn] at F; (try simp only [c14])))
 by_cases c15 : t12.2 = true
 case neg =>
  replace H := zneg c15 H
  replace c15 := eq_false_of_ne_true c15
  (try simp only [c15, dcn])
  obtain ⟨rfl, rfl⟩ := zsome2 H
  go_wp2_with (first | ((with_reducible refine gate_store (p := 2) rfl ?_); refine ev_store rfl 0 0 HS (seg := [.int .i64 0, .string (⟨#[]⟩ : ByteArray), .string (⟨#[]⟩ : ByteArray), .int .i64 0, .int .i64 0, .string (⟨#[]⟩ : ByteArray), .bool false, .int .i64 0, .int .i64 0, .slice none 0 0, .slice none 0 0, .slice none 0 0, .string (⟨#[]⟩ : ByteArray)]) rfl rfl rfl rfl rfl rfl (by kernel_rfl) (by simp [wrt]) (by simp [Value.oneCell']) ?_; clear HS; (try clear F); intro w73 HS; (try simp only [hpn, hpm] at HS); have F := HS.boxes; simp only [bxn] at F))
  have HS := HB6 _ _ HS (Nat.le_of_ble_eq_true rfl)
  replace HS := HS.nil 3 (Zd.int .i64)
  replace HS := HS.nil 9 Zd.string
  replace HS := HS.nil 9 Zd.string
  exact bodyPost_ret (results_list (rs := [.cell 2 29, .tmp 3]) rfl (by simp) (.cell _ _ _ _ _ rfl (HS.boxAt (i := 0) rfl) Tryd.underlying29 rfl (by kernel_rfl) (.tmp .nil))) rfl ⟨_, _, _, rfl, HS.pick [3, 4, 5] (by decide) (by rfl)⟩
 replace H := zpos c15 H
 (try simp only [c15, dcn])
 by_cases c16 : 0 < (t3.1.f2.length : Int)
 case neg => exact zno c16 H
 replace H := zpos c16 H
 replace c16 := eq_true c16
 have c16n : (0 < t3.1.f2.length) = True := eq_true (by have := of_eq_true c16; omega)
 obtain ⟨ad17, B17_2, d17_2, rfl, e17_0, e17_1, e17_2, m17_2, y17_2⟩ := at_T65 gb6_0 0 (of_eq_true (eq_true (by decide))) (of_eq_true c16)
 (try (have e17_0' := e17_0; simp only [Int.toNat_zero, Int.reduceToNat, Int.toNat_natCast, Nat.zero_mul, Nat.one_mul, Nat.zero_add, Nat.add_zero, Addr.add_zero', Addr.add_succ', Nat.reduceMul, Nat.reduceAdd] at e17_0'))
 (try (have e17_1' := e17_1; simp only [Int.toNat_zero, Int.reduceToNat, Int.toNat_natCast, Nat.zero_mul, Nat.one_mul, Nat.zero_add, Nat.add_zero, Addr.add_zero', Addr.add_succ', Nat.reduceMul, Nat.reduceAdd] at e17_1'))
 (try (have e17_2' := e17_2; simp only [Int.toNat_zero, Int.reduceToNat, Int.toNat_natCast, Nat.zero_mul, Nat.one_mul, Nat.zero_add, Nat.add_zero, Addr.add_zero', Addr.add_succ', Nat.reduceMul, Nat.reduceAdd] at e17_2'))
 have e17_0_17 := (hV.keepc HS e17_0)
 have e17_1_17 := (hV.keepc HS e17_1)
 have e17_2_17 := (hV.keepc HS e17_2)
 (try have e17_0'_17 := (hV.keepc HS e17_0'))
 (try have e17_1'_17 := (hV.keepc HS e17_1'))
 (try have e17_2'_17 := (hV.keepc HS e17_2'))
 replace H := zbind H; obtain ⟨t18, ht18, H⟩ := H
 by_cases c20 : t18.2 = true
 case neg =>
  replace H := zneg c20 H
  replace c20 := eq_false_of_ne_true c20
  obtain ⟨rfl, rfl⟩ := zsome2 H
  go_wp2_with (first | ((with_reducible refine gate_dst (N := 34) rfl ?_); refine ev_call rfl Tryd.func48 (by kernel_rfl) rfl #[.agg #[.int .i64 ((rd_T65 t3.1.f2 0).f0), .string ((rd_T65 t3.1.f2 0).f1), .slice B17_2 (rd_T65 t3.1.f2 0).f2.length d17_2], .int .i64 11] rfl (by simp only [mpn]; rfl) ?_; refine (spec_l09Kids.calls ht18.out (hV.ro km65 HS y17_2) m17_2).mono ?_; rintro _ wt18 ⟨rfl, HQ⟩; refine ⟨_, rfl, ?_⟩; replace HS := HS.call HQ; clear HQ; (try clear F); (try simp only [hpn, hpm] at HS); have F := HS.boxes; simp only [bxn] at F; (try simp only [c20])) | ((with_reducible refine gate_store (p := 2) rfl ?_); refine ev_store rfl 0 0 HS (seg := [.int .i64 0, .string (⟨#[]⟩ : ByteArray), .string (⟨#[]⟩ : ByteArray), .int .i64 0, .int .i64 0, .string (⟨#[]⟩ : ByteArray), .bool false, .int .i64 0, .int .i64 0, .slice none 0 0, .slice none 0 0, .slice none 0 0, .string (⟨#[]⟩ : ByteArray)]) rfl rfl rfl rfl rfl rfl (by kernel_rfl) (by simp [wrt]) (by simp [Value.oneCell']) ?_; clear HS; (try clear F); intro w71 HS; (try simp only [hpn, hpm] at HS); have F := HS.boxes; simp only [bxn] at F))
  have HS := HB6 _ _ HS (Nat.le_of_ble_eq_true rfl)
  replace HS := HS.nil 3 (Zd.int .i64)
  replace HS := HS.nil 9 Zd.string
  replace HS := HS.nil 9 Zd.string
  exact bodyPost_ret (results_list (rs := [.cell 2 29, .tmp 3]) rfl (by simp) (.cell _ _ _ _ _ rfl (HS.boxAt (i := 0) rfl) Tryd.underlying29 rfl (by kernel_rfl) (.tmp .nil))) rfl ⟨_, _, _, rfl, HS.pick [3, 4, 5] (by decide) (by rfl)⟩
 replace H := zpos c20 H
 by_cases c21 : 2 < ((rd_T65 t3.1.f2 0).f2.length : Int)
 case neg => exact zno c21 H
 replace H := zpos c21 H
 replace c21 := eq_true c21
 have c21n : (2 < (rd_T65 t3.1.f2 0).f2.length) = True := eq_true (by have := of_eq_true c21; omega)
 go_upto_if 46 with (first | ((with_reducible refine gate_dst (N := 34) rfl ?_); refine ev_call rfl Tryd.func48 (by kernel_rfl) rfl #[.agg #[.int .i64 ((rd_T65 t3.1.f2 0).f0), .string ((rd_T65 t3.1.f2 0).f1), .slice B17_2 (rd_T65 t3.1.f2 0).f2.length d17_2], .int .i64 11] rfl (by simp only [mpn]; rfl) ?_; refine (spec_l09Kids.calls ht18.out (hV.ro km65 HS y17_2) m17_2).mono ?_; rintro _ wt18 ⟨rfl, HQ⟩; refine ⟨_, rfl, ?_⟩; replace HS := HS.call HQ; clear HQ; (try clear F); (try simp only [hpn, hpm] at HS); have F := HS.boxes; simp only [bxn] at F; (try simp only [c20]); obtain ⟨ad22, B22_2, d22_2, rfl, e22_0, e22_1, e22_2, m22_2, y22_2⟩ := at_T65 y17_2 2 (of_eq_true (eq_true (by decide))) (of_eq_true c21); (try (have e22_0' := e22_0; simp only [Int.toNat_zero, Int.reduceToNat, Int.toNat_natCast, Nat.zero_mul, Nat.one_mul, Nat.zero_add, Nat.add_zero, Addr.add_zero', Addr.add_succ', Nat.reduceMul, Nat.reduceAdd] at e22_0')); (try (have e22_1' := e22_1; simp only [Int.toNat_zero, Int.reduceToNat, Int.toNat_natCast, Nat.zero_mul, Nat.one_mul, Nat.zero_add, Nat.add_zero, Addr.add_zero', Addr.add_succ', Nat.reduceMul, Nat.reduceAdd] at e22_1')); (try (have e22_2' := e22_2; simp only [Int.toNat_zero, Int.reduceToNat, Int.toNat_natCast, Nat.zero_mul, Nat.one_mul, Nat.zero_add, Nat.add_zero, Addr.add_zero', Addr.add_succ', Nat.reduceMul, Nat.reduceAdd] at e22_2')); have e22_0_22 := (hV.keepc HS e22_0); have e22_1_22 := (hV.keepc HS e22_1); have e22_2_22 := (hV.keepc HS e22_2); (try have e22_0'_22 := (hV.keepc HS e22_0')); (try have e22_1'_22 := (hV.keepc HS e22_1')); (try have e22_2'_22 := (hV.keepc HS e22_2'))))
 by_cases c23 : ((rd_T65 ((rd_T65 t3.1.f2 0).f2) 2).f2.length : Int) = 2
 case neg =>
  replace H := zneg c23 H
  have c23a := beq_eq_false_iff_ne.mpr c23
  have c23b := bne_iff_ne.mpr c23
  clear c23
  (try simp only [c23a, c23b, dcn])
  obtain ⟨rfl, rfl⟩ := zsome2 H
  go_wp2_with (first | ((with_reducible refine gate_store (p := 2) rfl ?_); refine ev_store rfl 0 0 HS (seg := [.int .i64 0, .string (⟨#[]⟩ : ByteArray), .string (⟨#[]⟩ : ByteArray), .int .i64 0, .int .i64 0, .string (⟨#[]⟩ : ByteArray), .bool false, .int .i64 0, .int .i64 0, .slice none 0 0, .slice none 0 0, .slice none 0 0, .string (⟨#[]⟩ : ByteArray)]) rfl rfl rfl rfl rfl rfl (by kernel_rfl) (by simp [wrt]) (by simp [Value.oneCell']) ?_; clear HS; (try clear F); intro w69 HS; (try simp only [hpn, hpm] at HS); have F := HS.boxes; simp only [bxn] at F))
  have HS := HB6 _ _ HS (Nat.le_of_ble_eq_true rfl)
  replace HS := HS.nil 3 (Zd.int .i64)
  replace HS := HS.nil 9 Zd.string
  replace HS := HS.nil 9 Zd.string
  exact bodyPost_ret (results_list (rs := [.cell 2 29, .tmp 3]) rfl (by simp) (.cell _ _ _ _ _ rfl (HS.boxAt (i := 0) rfl) Tryd.underlying29 rfl (by kernel_rfl) (.tmp .nil))) rfl ⟨_, _, _, rfl, HS.pick [3, 4, 5] (by decide) (by rfl)⟩
 replace H := zpos c23 H
 have c23a := beq_iff_eq.mpr c23
 have c23b := bne_eq_false_iff_eq.mpr c23
 clear c23
 (try simp only [c23a, c23b, dcn])
 (try go_wp2)
 by_cases c101001 : 1 < ((rd_T65 t3.1.f2 0).f2.length : Int)
 case neg => exact zno c101001 H
 replace H := zpos c101001 H
 replace c101001 := eq_true c101001
 have c101001n : (1 < (rd_T65 t3.1.f2 0).f2.length) = True := eq_true (by have := of_eq_true c101001; omega)
 obtain ⟨ad101999, B101999_2, d101999_2, hq101999, e101999_0, e101999_1, e101999_2, m101999_2, y101999_2⟩ := at_T65 y17_2 1 (of_eq_true (eq_true (by decide))) (of_eq_true c101001); obtain rfl := Option.some.inj hq101999; (try (have e101999_0' := e101999_0; simp only [Int.toNat_zero, Int.reduceToNat, Int.toNat_natCast, Nat.zero_mul, Nat.one_mul, Nat.zero_add, Nat.add_zero, Addr.add_zero', Addr.add_succ', Nat.reduceMul, Nat.reduceAdd] at e101999_0')); (try (have e101999_1' := e101999_1; simp only [Int.toNat_zero, Int.reduceToNat, Int.toNat_natCast, Nat.zero_mul, Nat.one_mul, Nat.zero_add, Nat.add_zero, Addr.add_zero', Addr.add_succ', Nat.reduceMul, Nat.reduceAdd] at e101999_1')); (try (have e101999_2' := e101999_2; simp only [Int.toNat_zero, Int.reduceToNat, Int.toNat_natCast, Nat.zero_mul, Nat.one_mul, Nat.zero_add, Nat.add_zero, Addr.add_zero', Addr.add_succ', Nat.reduceMul, Nat.reduceAdd] at e101999_2'))
 by_cases c105001 : 3 < ((rd_T65 t3.1.f2 0).f2.length : Int)
 case neg => exact zno c105001 H
 replace H := zpos c105001 H
 replace c105001 := eq_true c105001
 have c105001n : (3 < (rd_T65 t3.1.f2 0).f2.length) = True := eq_true (by have := of_eq_true c105001; omega)
 obtain ⟨ad105999, B105999_2, d105999_2, hq105999, e105999_0, e105999_1, e105999_2, m105999_2, y105999_2⟩ := at_T65 y17_2 3 (of_eq_true (eq_true (by decide))) (of_eq_true c105001); obtain rfl := Option.some.inj hq105999; (try (have e105999_0' := e105999_0; simp only [Int.toNat_zero, Int.reduceToNat, Int.toNat_natCast, Nat.zero_mul, Nat.one_mul, Nat.zero_add, Nat.add_zero, Addr.add_zero', Addr.add_succ', Nat.reduceMul, Nat.reduceAdd] at e105999_0')); (try (have e105999_1' := e105999_1; simp only [Int.toNat_zero, Int.reduceToNat, Int.toNat_natCast, Nat.zero_mul, Nat.one_mul, Nat.zero_add, Nat.add_zero, Addr.add_zero', Addr.add_succ', Nat.reduceMul, Nat.reduceAdd] at e105999_1')); (try (have e105999_2' := e105999_2; simp only [Int.toNat_zero, Int.reduceToNat, Int.toNat_natCast, Nat.zero_mul, Nat.one_mul, Nat.zero_add, Nat.add_zero, Addr.add_zero', Addr.add_succ', Nat.reduceMul, Nat.reduceAdd] at e105999_2'))
 by_cases c109001 : 4 < ((rd_T65 t3.1.f2 0).f2.length : Int)
 case neg => exact zno c109001 H
 replace H := zpos c109001 H
 replace c109001 := eq_true c109001
 have c109001n : (4 < (rd_T65 t3.1.f2 0).f2.length) = True := eq_true (by have := of_eq_true c109001; omega)
 obtain ⟨ad109999, B109999_2, d109999_2, hq109999, e109999_0, e109999_1, e109999_2, m109999_2, y109999_2⟩ := at_T65 y17_2 4 (of_eq_true (eq_true (by decide))) (of_eq_true c109001); obtain rfl := Option.some.inj hq109999; (try (have e109999_0' := e109999_0; simp only [Int.toNat_zero, Int.reduceToNat, Int.toNat_natCast, Nat.zero_mul, Nat.one_mul, Nat.zero_add, Nat.add_zero, Addr.add_zero', Addr.add_succ', Nat.reduceMul, Nat.reduceAdd] at e109999_0')); (try (have e109999_1' := e109999_1; simp only [Int.toNat_zero, Int.reduceToNat, Int.toNat_natCast, Nat.zero_mul, Nat.one_mul, Nat.zero_add, Nat.add_zero, Addr.add_zero', Addr.add_succ', Nat.reduceMul, Nat.reduceAdd] at e109999_1')); (try (have e109999_2' := e109999_2; simp only [Int.toNat_zero, Int.reduceToNat, Int.toNat_natCast, Nat.zero_mul, Nat.one_mul, Nat.zero_add, Nat.add_zero, Addr.add_zero', Addr.add_succ', Nat.reduceMul, Nat.reduceAdd] at e109999_2'))
 by_cases c113001 : 5 < ((rd_T65 t3.1.f2 0).f2.length : Int)
 case neg => exact zno c113001 H
 replace H := zpos c113001 H
 replace c113001 := eq_true c113001
 have c113001n : (5 < (rd_T65 t3.1.f2 0).f2.length) = True := eq_true (by have := of_eq_true c113001; omega)
 obtain ⟨ad113999, B113999_2, d113999_2, hq113999, e113999_0, e113999_1, e113999_2, m113999_2, y113999_2⟩ := at_T65 y17_2 5 (of_eq_true (eq_true (by decide))) (of_eq_true c113001); obtain rfl := Option.some.inj hq113999; (try (have e113999_0' := e113999_0; simp only [Int.toNat_zero, Int.reduceToNat, Int.toNat_natCast, Nat.zero_mul, Nat.one_mul, Nat.zero_add, Nat.add_zero, Addr.add_zero', Addr.add_succ', Nat.reduceMul, Nat.reduceAdd] at e113999_0')); (try (have e113999_1' := e113999_1; simp only [Int.toNat_zero, Int.reduceToNat, Int.toNat_natCast, Nat.zero_mul, Nat.one_mul, Nat.zero_add, Nat.add_zero, Addr.add_zero', Addr.add_succ', Nat.reduceMul, Nat.reduceAdd] at e113999_1')); (try (have e113999_2' := e113999_2; simp only [Int.toNat_zero, Int.reduceToNat, Int.toNat_natCast, Nat.zero_mul, Nat.one_mul, Nat.zero_add, Nat.add_zero, Addr.add_zero', Addr.add_succ', Nat.reduceMul, Nat.reduceAdd] at e113999_2'))
 by_cases c118001 : 8 < ((rd_T65 t3.1.f2 0).f2.length : Int)
 case neg => exact zno c118001 H
 replace H := zpos c118001 H
 replace c118001 := eq_true c118001
 have c118001n : (8 < (rd_T65 t3.1.f2 0).f2.length) = True := eq_true (by have := of_eq_true c118001; omega)
 obtain ⟨ad118999, B118999_2, d118999_2, hq118999, e118999_0, e118999_1, e118999_2, m118999_2, y118999_2⟩ := at_T65 y17_2 8 (of_eq_true (eq_true (by decide))) (of_eq_true c118001); obtain rfl := Option.some.inj hq118999; (try (have e118999_0' := e118999_0; simp only [Int.toNat_zero, Int.reduceToNat, Int.toNat_natCast, Nat.zero_mul, Nat.one_mul, Nat.zero_add, Nat.add_zero, Addr.add_zero', Addr.add_succ', Nat.reduceMul, Nat.reduceAdd] at e118999_0')); (try (have e118999_1' := e118999_1; simp only [Int.toNat_zero, Int.reduceToNat, Int.toNat_natCast, Nat.zero_mul, Nat.one_mul, Nat.zero_add, Nat.add_zero, Addr.add_zero', Addr.add_succ', Nat.reduceMul, Nat.reduceAdd] at e118999_1')); (try (have e118999_2' := e118999_2; simp only [Int.toNat_zero, Int.reduceToNat, Int.toNat_natCast, Nat.zero_mul, Nat.one_mul, Nat.zero_add, Nat.add_zero, Addr.add_zero', Addr.add_succ', Nat.reduceMul, Nat.reduceAdd] at e118999_2'))
 replace H := zbind H; obtain ⟨t120001, ht120001, H⟩ := H
 by_cases c122001 : 9 < ((rd_T65 t3.1.f2 0).f2.length : Int)
 case neg => exact zno c122001 H
 replace H := zpos c122001 H
 replace c122001 := eq_true c122001
 have c122001n : (9 < (rd_T65 t3.1.f2 0).f2.length) = True := eq_true (by have := of_eq_true c122001; omega)
 obtain ⟨ad122999, B122999_2, d122999_2, hq122999, e122999_0, e122999_1, e122999_2, m122999_2, y122999_2⟩ := at_T65 y17_2 9 (of_eq_true (eq_true (by decide))) (of_eq_true c122001); obtain rfl := Option.some.inj hq122999; (try (have e122999_0' := e122999_0; simp only [Int.toNat_zero, Int.reduceToNat, Int.toNat_natCast, Nat.zero_mul, Nat.one_mul, Nat.zero_add, Nat.add_zero, Addr.add_zero', Addr.add_succ', Nat.reduceMul, Nat.reduceAdd] at e122999_0')); (try (have e122999_1' := e122999_1; simp only [Int.toNat_zero, Int.reduceToNat, Int.toNat_natCast, Nat.zero_mul, Nat.one_mul, Nat.zero_add, Nat.add_zero, Addr.add_zero', Addr.add_succ', Nat.reduceMul, Nat.reduceAdd] at e122999_1')); (try (have e122999_2' := e122999_2; simp only [Int.toNat_zero, Int.reduceToNat, Int.toNat_natCast, Nat.zero_mul, Nat.one_mul, Nat.zero_add, Nat.add_zero, Addr.add_zero', Addr.add_succ', Nat.reduceMul, Nat.reduceAdd] at e122999_2'))
 replace H := zbind H; obtain ⟨t124001, ht124001, H⟩ := H
 by_cases c126001 : 10 < ((rd_T65 t3.1.f2 0).f2.length : Int)
 case neg => exact zno c126001 H
 replace H := zpos c126001 H
 replace c126001 := eq_true c126001
 have c126001n : (10 < (rd_T65 t3.1.f2 0).f2.length) = True := eq_true (by have := of_eq_true c126001; omega)
 obtain ⟨ad126999, B126999_2, d126999_2, hq126999, e126999_0, e126999_1, e126999_2, m126999_2, y126999_2⟩ := at_T65 y17_2 10 (of_eq_true (eq_true (by decide))) (of_eq_true c126001); obtain rfl := Option.some.inj hq126999; (try (have e126999_0' := e126999_0; simp only [Int.toNat_zero, Int.reduceToNat, Int.toNat_natCast, Nat.zero_mul, Nat.one_mul, Nat.zero_add, Nat.add_zero, Addr.add_zero', Addr.add_succ', Nat.reduceMul, Nat.reduceAdd] at e126999_0')); (try (have e126999_1' := e126999_1; simp only [Int.toNat_zero, Int.reduceToNat, Int.toNat_natCast, Nat.zero_mul, Nat.one_mul, Nat.zero_add, Nat.add_zero, Addr.add_zero', Addr.add_succ', Nat.reduceMul, Nat.reduceAdd] at e126999_1')); (try (have e126999_2' := e126999_2; simp only [Int.toNat_zero, Int.reduceToNat, Int.toNat_natCast, Nat.zero_mul, Nat.one_mul, Nat.zero_add, Nat.add_zero, Addr.add_zero', Addr.add_succ', Nat.reduceMul, Nat.reduceAdd] at e126999_2'))
 replace H := zbind H; obtain ⟨t128001, ht128001, H⟩ := H
 by_cases c130001 : 1 < (t3.1.f2.length : Int)
 case neg => exact zno c130001 H
 replace H := zpos c130001 H
 replace c130001 := eq_true c130001
 have c130001n : (1 < t3.1.f2.length) = True := eq_true (by have := of_eq_true c130001; omega)
 obtain ⟨ad130999, B130999_2, d130999_2, hq130999, e130999_0, e130999_1, e130999_2, m130999_2, y130999_2⟩ := at_T65 gb6_0 1 (of_eq_true (eq_true (by decide))) (of_eq_true c130001); obtain rfl := Option.some.inj hq130999; (try (have e130999_0' := e130999_0; simp only [Int.toNat_zero, Int.reduceToNat, Int.toNat_natCast, Nat.zero_mul, Nat.one_mul, Nat.zero_add, Nat.add_zero, Addr.add_zero', Addr.add_succ', Nat.reduceMul, Nat.reduceAdd] at e130999_0')); (try (have e130999_1' := e130999_1; simp only [Int.toNat_zero, Int.reduceToNat, Int.toNat_natCast, Nat.zero_mul, Nat.one_mul, Nat.zero_add, Nat.add_zero, Addr.add_zero', Addr.add_succ', Nat.reduceMul, Nat.reduceAdd] at e130999_1')); (try (have e130999_2' := e130999_2; simp only [Int.toNat_zero, Int.reduceToNat, Int.toNat_natCast, Nat.zero_mul, Nat.one_mul, Nat.zero_add, Nat.add_zero, Addr.add_zero', Addr.add_succ', Nat.reduceMul, Nat.reduceAdd] at e130999_2'))
 refine dr_start [35] HS #[false, false, false, false, false, false, false, false, false, false, false, false, false, false, false, false, false, false, false, false, false, false, false, false, false, false, false, false, false, false, false, false, false, false, false, false] (by kernel_rfl) rfl rfl spec_ReadCert.tT8 (fun w25 HT HS HH => ?_)
 (try clear F)
 refine join_ 0 #[true, true, true, true, true, true, true, true, true, true, true, true, true, true, true, true, true, true, true, true, true, true, true, true, true, true, true, true, true, true, true, true, true, true, true, true] (fun ((v120002, v124002, v128002, g10, pe49, pe50, pe53, pe54, pe57, pe58, pe61, pe62, pe66, pe67, pe70, pe71, pe74, pe75, pe78, pe79) : Value × Value × Value × Nat × Value × Value × Value × Value × Value × Value × Value × Value × Value × Value × Value × Value × Value × Value × Value × Value) => ([(48, .slice (some ad22) (rd_T65 t3.1.f2 0).f2.length d17_2), (49, pe49), (50, pe50), (51, .string ((rd_T65 ((rd_T65 t3.1.f2 0).f2) 1).f1)), (52, .slice (some ad22) (rd_T65 t3.1.f2 0).f2.length d17_2), (53, pe53), (54, pe54), (55, .string ((rd_T65 ((rd_T65 t3.1.f2 0).f2) 3).f1)), (56, .slice (some ad22) (rd_T65 t3.1.f2 0).f2.length d17_2), (57, pe57), (58, pe58), (59, .string ((rd_T65 ((rd_T65 t3.1.f2 0).f2) 4).f1)), (60, .slice (some ad22) (rd_T65 t3.1.f2 0).f2.length d17_2), (61, pe61), (62, pe62), (63, .string ((rd_T65 ((rd_T65 t3.1.f2 0).f2) 5).f1)), (64, .bool (((rd_T65 ((rd_T65 t3.1.f2 0).f2) 5).f1).toList == ([255] : List UInt8))), (65, .slice (some ad22) (rd_T65 t3.1.f2 0).f2.length d17_2), (66, pe66), (67, pe67), (68, v120002), (69, .slice (some ad22) (rd_T65 t3.1.f2 0).f2.length d17_2), (70, pe70), (71, pe71), (72, v124002), (73, .slice (some ad22) (rd_T65 t3.1.f2 0).f2.length d17_2), (74, pe74), (75, pe75), (76, v128002), (77, .slice (some ad17) t3.1.f2.length d4), (78, pe78), (79, pe79), (80, .string ((rd_T65 t3.1.f2 1).f1)), (81, .agg #[.int .i64 0, .string ((rd_T65 ((rd_T65 t3.1.f2 0).f2) 1).f1), .string ((rd_T65 ((rd_T65 t3.1.f2 0).f2) 3).f1), .int .i64 0, .int .i64 0, .string ((rd_T65 ((rd_T65 t3.1.f2 0).f2) 4).f1), .bool (((rd_T65 ((rd_T65 t3.1.f2 0).f2) 5).f1).toList == ([255] : List UInt8)), .int .i64 0, .int .i64 0, v120002, v124002, v128002, .string ((rd_T65 t3.1.f2 1).f1)]), (10, .pointer (some ⟨g10, 0, none⟩))] : List (Tmp × Value))) (fun ((v120002, v124002, v128002, g10, pe49, pe50, pe53, pe54, pe57, pe58, pe61, pe62, pe66, pe67, pe70, pe71, pe74, pe75, pe78, pe79) : Value × Value × Value × Nat × Value × Value × Value × Value × Value × Value × Value × Value × Value × Value × Value × Value × Value × Value × Value × Value) w' => Hp A6 wt3 w' [.box g2 [.int .i64 0, .string (⟨#[]⟩ : ByteArray), .string (⟨#[]⟩ : ByteArray), .int .i64 0, .int .i64 0, .string (⟨#[]⟩ : ByteArray), .bool false, .int .i64 0, .int .i64 0, .slice none 0 0, .slice none 0 0, .slice none 0 0, .string (⟨#[]⟩ : ByteArray)] 29, .box g4 [.int .i64 t3.1.f0, .string t3.1.f1, .slice (some ad17) t3.1.f2.length d4] 65, .own (Zd.slice 3 (Zd.int .i64)) t120001 [v120002], .own (Zd.slice 9 Zd.string) t124001 [v124002], .own (Zd.slice 9 Zd.string) t128001 [v128002], .box g10 [.int .i64 0, .string ((rd_T65 ((rd_T65 t3.1.f2 0).f2) 1).f1), .string ((rd_T65 ((rd_T65 t3.1.f2 0).f2) 3).f1), .int .i64 0, .int .i64 0, .string ((rd_T65 ((rd_T65 t3.1.f2 0).f2) 4).f1), .bool (((rd_T65 ((rd_T65 t3.1.f2 0).f2) 5).f1).toList == ([255] : List UInt8)), .int .i64 0, .int .i64 0, v120002, v124002, v128002, .string ((rd_T65 t3.1.f2 1).f1)] 29]) ?_ ?_
 rotate_left
 · intro hJ
   refine drq_of [(0, some 48), (1, some 49), (2, some 50)] ?_
   repeat (first | (refine drq_pure HT (v := ?_) (a' := ?_) rfl rfl (by kernel_rfl) (fun _ _ _ h => h) (.inl ⟨by rfl, ?_⟩) ?_ ?_; rotate_left; (intro w'; go_simp; with_reducible rfl); rotate_left; (simp only [Act.put, ptn]; rfl)))
   refine drq_end ?_
   refine dr_take 3 (some 51) HT HH (v := ?_) (a' := ?_) rfl rfl (by kernel_rfl) (fun _ _ _ h => h) (.inl ⟨by rfl, ?_⟩) ?_ ?_
   rotate_left
   · rintro w' ⟨rs', HS'⟩; have e101999_0 := (hV.keepc HS' e101999_0); have e101999_1 := (hV.keepc HS' e101999_1); have e101999_2 := (hV.keepc HS' e101999_2); (try simp only [Int.toNat_zero, Int.reduceToNat, Int.toNat_natCast, Nat.zero_mul, Nat.one_mul, Nat.zero_add, Nat.add_zero, Addr.add_zero', Addr.add_succ', Nat.reduceMul, Nat.reduceAdd] at e101999_0 e101999_1 e101999_2); go_simp; with_reducible rfl
   rotate_left
   · simp only [Act.put, ptn]; rfl
   refine drq_of [(4, some 52), (5, some 53), (6, some 54)] ?_
   repeat (first | (refine drq_pure HT (v := ?_) (a' := ?_) rfl rfl (by kernel_rfl) (fun _ _ _ h => h) (.inl ⟨by rfl, ?_⟩) ?_ ?_; rotate_left; (intro w'; go_simp; with_reducible rfl); rotate_left; (simp only [Act.put, ptn]; rfl)))
   refine drq_end ?_
   refine dr_take 7 (some 55) HT HH (v := ?_) (a' := ?_) rfl rfl (by kernel_rfl) (fun _ _ _ h => h) (.inl ⟨by rfl, ?_⟩) ?_ ?_
   rotate_left
   · rintro w' ⟨rs', HS'⟩; have e105999_0 := (hV.keepc HS' e105999_0); have e105999_1 := (hV.keepc HS' e105999_1); have e105999_2 := (hV.keepc HS' e105999_2); (try simp only [Int.toNat_zero, Int.reduceToNat, Int.toNat_natCast, Nat.zero_mul, Nat.one_mul, Nat.zero_add, Nat.add_zero, Addr.add_zero', Addr.add_succ', Nat.reduceMul, Nat.reduceAdd] at e105999_0 e105999_1 e105999_2); go_simp; with_reducible rfl
   rotate_left
   · simp only [Act.put, ptn]; rfl
   refine drq_of [(8, some 56), (9, some 57), (10, some 58)] ?_
   repeat (first | (refine drq_pure HT (v := ?_) (a' := ?_) rfl rfl (by kernel_rfl) (fun _ _ _ h => h) (.inl ⟨by rfl, ?_⟩) ?_ ?_; rotate_left; (intro w'; go_simp; with_reducible rfl); rotate_left; (simp only [Act.put, ptn]; rfl)))
   refine drq_end ?_
   refine dr_take 11 (some 59) HT HH (v := ?_) (a' := ?_) rfl rfl (by kernel_rfl) (fun _ _ _ h => h) (.inl ⟨by rfl, ?_⟩) ?_ ?_
   rotate_left
   · rintro w' ⟨rs', HS'⟩; have e109999_0 := (hV.keepc HS' e109999_0); have e109999_1 := (hV.keepc HS' e109999_1); have e109999_2 := (hV.keepc HS' e109999_2); (try simp only [Int.toNat_zero, Int.reduceToNat, Int.toNat_natCast, Nat.zero_mul, Nat.one_mul, Nat.zero_add, Nat.add_zero, Addr.add_zero', Addr.add_succ', Nat.reduceMul, Nat.reduceAdd] at e109999_0 e109999_1 e109999_2); go_simp; with_reducible rfl
   rotate_left
   · simp only [Act.put, ptn]; rfl
   refine drq_of [(12, some 60), (13, some 61), (14, some 62)] ?_
   repeat (first | (refine drq_pure HT (v := ?_) (a' := ?_) rfl rfl (by kernel_rfl) (fun _ _ _ h => h) (.inl ⟨by rfl, ?_⟩) ?_ ?_; rotate_left; (intro w'; go_simp; with_reducible rfl); rotate_left; (simp only [Act.put, ptn]; rfl)))
   refine drq_end ?_
   refine dr_take 15 (some 63) HT HH (v := ?_) (a' := ?_) rfl rfl (by kernel_rfl) (fun _ _ _ h => h) (.inl ⟨by rfl, ?_⟩) ?_ ?_
   rotate_left
   · rintro w' ⟨rs', HS'⟩; have e113999_0 := (hV.keepc HS' e113999_0); have e113999_1 := (hV.keepc HS' e113999_1); have e113999_2 := (hV.keepc HS' e113999_2); (try simp only [Int.toNat_zero, Int.reduceToNat, Int.toNat_natCast, Nat.zero_mul, Nat.one_mul, Nat.zero_add, Nat.add_zero, Addr.add_zero', Addr.add_succ', Nat.reduceMul, Nat.reduceAdd] at e113999_0 e113999_1 e113999_2); go_simp; with_reducible rfl
   rotate_left
   · simp only [Act.put, ptn]; rfl
   refine drq_of [(16, some 64), (17, some 65), (18, some 66)] ?_
   repeat (first | (refine drq_pure HT (v := ?_) (a' := ?_) rfl rfl (by kernel_rfl) (fun _ _ _ h => h) (.inl ⟨by rfl, ?_⟩) ?_ ?_; rotate_left; (intro w'; go_simp; with_reducible rfl); rotate_left; (simp only [Act.put, ptn]; rfl)))
   refine drq_end ?_
   refine dr_take 19 (some 67) HT HH (v := ?_) (a' := ?_) rfl rfl (by kernel_rfl) (fun _ _ _ h => h) (.inl ⟨by rfl, ?_⟩) ?_ ?_
   rotate_left
   · rintro w' ⟨rs', HS'⟩; have e118999_0 := (hV.keepc HS' e118999_0); have e118999_1 := (hV.keepc HS' e118999_1); have e118999_2 := (hV.keepc HS' e118999_2); (try simp only [Int.toNat_zero, Int.reduceToNat, Int.toNat_natCast, Nat.zero_mul, Nat.one_mul, Nat.zero_add, Nat.add_zero, Addr.add_zero', Addr.add_succ', Nat.reduceMul, Nat.reduceAdd] at e118999_0 e118999_1 e118999_2); go_simp; with_reducible rfl
   rotate_left
   · simp only [Act.put, ptn]; rfl
   refine drq_of [(21, some 69), (22, some 70)] ?_
   repeat (first | (refine drq_pure HT (v := ?_) (a' := ?_) rfl rfl (by kernel_rfl) (fun _ _ _ h => h) (.inl ⟨by rfl, ?_⟩) ?_ ?_; rotate_left; (intro w'; go_simp; with_reducible rfl); rotate_left; (simp only [Act.put, ptn]; rfl)))
   refine drq_end ?_
   refine dr_take 23 (some 71) HT HH (v := ?_) (a' := ?_) rfl rfl (by kernel_rfl) (fun _ _ _ h => h) (.inl ⟨by rfl, ?_⟩) ?_ ?_
   rotate_left
   · rintro w' ⟨rs', HS'⟩; have e122999_0 := (hV.keepc HS' e122999_0); have e122999_1 := (hV.keepc HS' e122999_1); have e122999_2 := (hV.keepc HS' e122999_2); (try simp only [Int.toNat_zero, Int.reduceToNat, Int.toNat_natCast, Nat.zero_mul, Nat.one_mul, Nat.zero_add, Nat.add_zero, Addr.add_zero', Addr.add_succ', Nat.reduceMul, Nat.reduceAdd] at e122999_0 e122999_1 e122999_2); go_simp; with_reducible rfl
   rotate_left
   · simp only [Act.put, ptn]; rfl
   refine drq_of [(25, some 73), (26, some 74)] ?_
   repeat (first | (refine drq_pure HT (v := ?_) (a' := ?_) rfl rfl (by kernel_rfl) (fun _ _ _ h => h) (.inl ⟨by rfl, ?_⟩) ?_ ?_; rotate_left; (intro w'; go_simp; with_reducible rfl); rotate_left; (simp only [Act.put, ptn]; rfl)))
   refine drq_end ?_
   refine dr_take 27 (some 75) HT HH (v := ?_) (a' := ?_) rfl rfl (by kernel_rfl) (fun _ _ _ h => h) (.inl ⟨by rfl, ?_⟩) ?_ ?_
   rotate_left
   · rintro w' ⟨rs', HS'⟩; have e126999_0 := (hV.keepc HS' e126999_0); have e126999_1 := (hV.keepc HS' e126999_1); have e126999_2 := (hV.keepc HS' e126999_2); (try simp only [Int.toNat_zero, Int.reduceToNat, Int.toNat_natCast, Nat.zero_mul, Nat.one_mul, Nat.zero_add, Nat.add_zero, Addr.add_zero', Addr.add_succ', Nat.reduceMul, Nat.reduceAdd] at e126999_0 e126999_1 e126999_2); go_simp; with_reducible rfl
   rotate_left
   · simp only [Act.put, ptn]; rfl
   refine drq_of [(29, some 77), (30, some 78), (31, some 79)] ?_
   repeat (first | (refine drq_pure HT (v := ?_) (a' := ?_) rfl rfl (by kernel_rfl) (fun _ _ _ h => h) (.inl ⟨by rfl, ?_⟩) ?_ ?_; rotate_left; (intro w'; go_simp; with_reducible rfl); rotate_left; (simp only [Act.put, ptn]; rfl)))
   refine drq_end ?_
   refine dr_take 32 (some 80) HT HH (v := ?_) (a' := ?_) rfl rfl (by kernel_rfl) (fun _ _ _ h => h) (.inl ⟨by rfl, ?_⟩) ?_ ?_
   rotate_left
   · rintro w' ⟨rs', HS'⟩; have e130999_0 := (hV.keepc HS' e130999_0); have e130999_1 := (hV.keepc HS' e130999_1); have e130999_2 := (hV.keepc HS' e130999_2); (try simp only [Int.toNat_zero, Int.reduceToNat, Int.toNat_natCast, Nat.zero_mul, Nat.one_mul, Nat.zero_add, Nat.add_zero, Addr.add_zero', Addr.add_succ', Nat.reduceMul, Nat.reduceAdd] at e130999_0 e130999_1 e130999_2); go_simp; with_reducible rfl
   rotate_left
   · simp only [Act.put, ptn]; rfl
   refine dr_any [20, 34] HT (by kernel_rfl) (by decide) (AllReadyL.cons rfl (by decide) (fun K hK => ?_) (AllReadyL.cons rfl (by decide) (fun K hK => ?_) AllReadyL.nil))
   · refine goes_ Tryd.func50 (by kernel_rfl) rfl #[.agg #[.int .i64 ((rd_T65 ((rd_T65 t3.1.f2 0).f2) 8).f0), .string ((rd_T65 ((rd_T65 t3.1.f2 0).f2) 8).f1), .slice B118999_2 (rd_T65 ((rd_T65 t3.1.f2 0).f2) 8).f2.length d118999_2]] (by rfl) rfl rfl (by simp only [mpn]; rfl) ?_; refine (spec_l09IntsIn.calls ht120001.out (hV.ro km65 HS y118999_2) m118999_2).mono ?_; rintro _ wt120001 ⟨v120002, rfl, HQ⟩; refine ⟨_, rfl, ?_⟩; replace HS := HS.call HQ; clear HQ; (try clear F); obtain ⟨B120002, d120002, rfl, m120002⟩ := HS.form 2 rfl
     (try simp only [hpn, hpm] at HS)
     have F := HS.boxes; simp only [bxn] at F
     refine hK.out _ _ ⟨_, HS⟩ (fun HH => ?_)
     clear hK K
     refine norm_ (a' := ?_) ?_ ?_
     rotate_left
     · show Act.put _ (some 68) _ = _; simp only [Act.put, ptn, c14, c15, c20]; rfl
     refine dr_any [24, 34] HT (by kernel_rfl) (by decide) (AllReadyL.cons rfl (by decide) (fun K hK => ?_) (AllReadyL.cons rfl (by decide) (fun K hK => ?_) AllReadyL.nil))
     · refine goes_ Tryd.func60 (by kernel_rfl) rfl #[.agg #[.int .i64 ((rd_T65 ((rd_T65 t3.1.f2 0).f2) 9).f0), .string ((rd_T65 ((rd_T65 t3.1.f2 0).f2) 9).f1), .slice B122999_2 (rd_T65 ((rd_T65 t3.1.f2 0).f2) 9).f2.length d122999_2]] (by rfl) rfl rfl (by simp only [mpn]; rfl) ?_; refine (spec_l09TextsIn.calls ht124001.out (hV.ro km65 HS y122999_2) m122999_2).mono ?_; rintro _ wt124001 ⟨v124002, rfl, HQ⟩; refine ⟨_, rfl, ?_⟩; replace HS := HS.call HQ; clear HQ; (try clear F); obtain ⟨B124002, d124002, rfl, m124002⟩ := HS.form 3 rfl
       (try simp only [hpn, hpm] at HS)
       have F := HS.boxes; simp only [bxn] at F
       refine hK.out _ _ ⟨_, HS⟩ (fun HH => ?_)
       clear hK K
       refine norm_ (a' := ?_) ?_ ?_
       rotate_left
       · show Act.put _ (some 72) _ = _; simp only [Act.put, ptn, c14, c15, c20]; rfl
       refine dr_any [28, 34] HT (by kernel_rfl) (by decide) (AllReadyL.cons rfl (by decide) (fun K hK => ?_) (AllReadyL.cons rfl (by decide) (fun K hK => ?_) AllReadyL.nil))
       · refine goes_ Tryd.func60 (by kernel_rfl) rfl #[.agg #[.int .i64 ((rd_T65 ((rd_T65 t3.1.f2 0).f2) 10).f0), .string ((rd_T65 ((rd_T65 t3.1.f2 0).f2) 10).f1), .slice B126999_2 (rd_T65 ((rd_T65 t3.1.f2 0).f2) 10).f2.length d126999_2]] (by rfl) rfl rfl (by simp only [mpn]; rfl) ?_; refine (spec_l09TextsIn.calls ht128001.out (hV.ro km65 HS y126999_2) m126999_2).mono ?_; rintro _ wt128001 ⟨v128002, rfl, HQ⟩; refine ⟨_, rfl, ?_⟩; replace HS := HS.call HQ; clear HQ; (try clear F); obtain ⟨B128002, d128002, rfl, m128002⟩ := HS.form 4 rfl
         (try simp only [hpn, hpm] at HS)
         have F := HS.boxes; simp only [bxn] at F
         refine hK.out _ _ ⟨_, HS⟩ (fun HH => ?_)
         clear hK K
         refine norm_ (a' := ?_) ?_ ?_
         rotate_left
         · show Act.put _ (some 76) _ = _; simp only [Act.put, ptn, c14, c15, c20]; rfl
         refine drq_of [(33, some 81)] ?_
         repeat (first | (refine drq_pure HT (v := ?_) (a' := ?_) rfl rfl (by kernel_rfl) (fun _ _ _ h => h) (.inl ⟨by rfl, ?_⟩) ?_ ?_; rotate_left; (intro w'; go_simp; with_reducible rfl); rotate_left; (simp only [Act.put, ptn]; rfl)))
         refine drq_end ?_
         refine dr_one 34 HT rfl (by kernel_rfl) (by decide) (fun K hK => ?_)
         refine if_wp (by rfl) ?_; refine wp_box HS (by first | (go_simp; done) | (go_simp; rfl)) rfl ?_; clear HS; (try clear F); intro g10 w10 HS
         (try simp only [hpn, hpm] at HS)
         have F := HS.boxes; simp only [bxn] at F
         refine hK.out _ _ ⟨_, HS⟩ (fun HH => ?_)
         clear hK K
         refine norm_ (a' := ?_) ?_ ?_
         rotate_left
         · show Act.put _ (some 10) _ = _; simp only [Act.put, ptn, c14, c15, c20]; rfl
         refine dr_last 35 HT rfl (by kernel_rfl) (by decide) (fun K hK => ?_)
         refine if_wp (by rfl) ?_; refine wp_store 5 0 HS (seg := [.int .i64 0, .string ((rd_T65 ((rd_T65 t3.1.f2 0).f2) 1).f1), .string ((rd_T65 ((rd_T65 t3.1.f2 0).f2) 3).f1), .int .i64 0, .int .i64 0, .string ((rd_T65 ((rd_T65 t3.1.f2 0).f2) 4).f1), .bool (((rd_T65 ((rd_T65 t3.1.f2 0).f2) 5).f1).toList == ([255] : List UInt8)), .int .i64 0, .int .i64 0, .slice B120002 t120001.length d120002, .slice B124002 t124001.length d124002, .slice B128002 t128001.length d128002, .string ((rd_T65 t3.1.f2 1).f1)]) rfl rfl rfl rfl rfl rfl (by kernel_rfl) (by simp [wrt]) (by simp [Value.oneCell']) ?_; clear HS; (try clear F); intro w135001 HS
         (try simp only [hpn, hpm] at HS)
         have F := HS.boxes; simp only [bxn] at F
         refine hK.out _ _ ?_
         clear hK K
         refine norm_ ?_ (hJ (.slice B120002 t120001.length d120002, .slice B124002 t124001.length d124002, .slice B128002 t128001.length d128002, g10, .pointer (some (ad22.add 3)), .pointer (some (ad22.add 4)), .pointer (some (ad22.add 9)), .pointer (some (ad22.add 10)), .pointer (some (ad22.add 12)), .pointer (some (ad22.add 13)), .pointer (some (ad22.add 15)), .pointer (some (ad22.add 16)), .pointer (some (ad22.add 24)), .agg #[.int .i64 ((rd_T65 ((rd_T65 t3.1.f2 0).f2) 8).f0), .string ((rd_T65 ((rd_T65 t3.1.f2 0).f2) 8).f1), .slice B118999_2 (rd_T65 ((rd_T65 t3.1.f2 0).f2) 8).f2.length d118999_2], .pointer (some (ad22.add 27)), .agg #[.int .i64 ((rd_T65 ((rd_T65 t3.1.f2 0).f2) 9).f0), .string ((rd_T65 ((rd_T65 t3.1.f2 0).f2) 9).f1), .slice B122999_2 (rd_T65 ((rd_T65 t3.1.f2 0).f2) 9).f2.length d122999_2], .pointer (some (ad22.add 30)), .agg #[.int .i64 ((rd_T65 ((rd_T65 t3.1.f2 0).f2) 10).f0), .string ((rd_T65 ((rd_T65 t3.1.f2 0).f2) 10).f1), .slice B126999_2 (rd_T65 ((rd_T65 t3.1.f2 0).f2) 10).f2.length d126999_2], .pointer (some (ad17.add 3)), .pointer (some (ad17.add 4))) _ (HS.arr [some 0, some 1, some 2, some 3, some 4, some 5] (by decide)))
         simp only [putAll, Act.put, ptn, c14, c15, c20]
         (try rfl)
       · refine if_wp (by rfl) ?_; refine wp_box HS (by first | (go_simp; done) | (go_simp; rfl)) rfl ?_; clear HS; (try clear F); intro g10 w10 HS
         (try simp only [hpn, hpm] at HS)
         have F := HS.boxes; simp only [bxn] at F
         refine hK.out _ _ ⟨_, HS⟩ (fun HH => ?_)
         clear hK K
         refine norm_ (a' := ?_) ?_ ?_
         rotate_left
         · show Act.put _ (some 10) _ = _; simp only [Act.put, ptn, c14, c15, c20]; rfl
         refine dr_one 28 HT rfl (by kernel_rfl) (by decide) (fun K hK => ?_)
         refine goes_ Tryd.func60 (by kernel_rfl) rfl #[.agg #[.int .i64 ((rd_T65 ((rd_T65 t3.1.f2 0).f2) 10).f0), .string ((rd_T65 ((rd_T65 t3.1.f2 0).f2) 10).f1), .slice B126999_2 (rd_T65 ((rd_T65 t3.1.f2 0).f2) 10).f2.length d126999_2]] (by rfl) rfl rfl (by simp only [mpn]; rfl) ?_; refine (spec_l09TextsIn.calls ht128001.out (hV.ro km65 HS y126999_2) m126999_2).mono ?_; rintro _ wt128001 ⟨v128002, rfl, HQ⟩; refine ⟨_, rfl, ?_⟩; replace HS := HS.call HQ; clear HQ; (try clear F); obtain ⟨B128002, d128002, rfl, m128002⟩ := HS.form 5 rfl
         (try simp only [hpn, hpm] at HS)
         have F := HS.boxes; simp only [bxn] at F
         refine hK.out _ _ ⟨_, HS⟩ (fun HH => ?_)
         clear hK K
         refine norm_ (a' := ?_) ?_ ?_
         rotate_left
         · show Act.put _ (some 76) _ = _; simp only [Act.put, ptn, c14, c15, c20]; rfl
         refine drq_of [(33, some 81)] ?_
         repeat (first | (refine drq_pure HT (v := ?_) (a' := ?_) rfl rfl (by kernel_rfl) (fun _ _ _ h => h) (.inl ⟨by rfl, ?_⟩) ?_ ?_; rotate_left; (intro w'; go_simp; with_reducible rfl); rotate_left; (simp only [Act.put, ptn]; rfl)))
         refine drq_end ?_
         refine dr_last 35 HT rfl (by kernel_rfl) (by decide) (fun K hK => ?_)
         refine if_wp (by rfl) ?_; refine wp_store 4 0 HS (seg := [.int .i64 0, .string ((rd_T65 ((rd_T65 t3.1.f2 0).f2) 1).f1), .string ((rd_T65 ((rd_T65 t3.1.f2 0).f2) 3).f1), .int .i64 0, .int .i64 0, .string ((rd_T65 ((rd_T65 t3.1.f2 0).f2) 4).f1), .bool (((rd_T65 ((rd_T65 t3.1.f2 0).f2) 5).f1).toList == ([255] : List UInt8)), .int .i64 0, .int .i64 0, .slice B120002 t120001.length d120002, .slice B124002 t124001.length d124002, .slice B128002 t128001.length d128002, .string ((rd_T65 t3.1.f2 1).f1)]) rfl rfl rfl rfl rfl rfl (by kernel_rfl) (by simp [wrt]) (by simp [Value.oneCell']) ?_; clear HS; (try clear F); intro w135001 HS
         (try simp only [hpn, hpm] at HS)
         have F := HS.boxes; simp only [bxn] at F
         refine hK.out _ _ ?_
         clear hK K
         refine norm_ ?_ (hJ (.slice B120002 t120001.length d120002, .slice B124002 t124001.length d124002, .slice B128002 t128001.length d128002, g10, .pointer (some (ad22.add 3)), .pointer (some (ad22.add 4)), .pointer (some (ad22.add 9)), .pointer (some (ad22.add 10)), .pointer (some (ad22.add 12)), .pointer (some (ad22.add 13)), .pointer (some (ad22.add 15)), .pointer (some (ad22.add 16)), .pointer (some (ad22.add 24)), .agg #[.int .i64 ((rd_T65 ((rd_T65 t3.1.f2 0).f2) 8).f0), .string ((rd_T65 ((rd_T65 t3.1.f2 0).f2) 8).f1), .slice B118999_2 (rd_T65 ((rd_T65 t3.1.f2 0).f2) 8).f2.length d118999_2], .pointer (some (ad22.add 27)), .agg #[.int .i64 ((rd_T65 ((rd_T65 t3.1.f2 0).f2) 9).f0), .string ((rd_T65 ((rd_T65 t3.1.f2 0).f2) 9).f1), .slice B122999_2 (rd_T65 ((rd_T65 t3.1.f2 0).f2) 9).f2.length d122999_2], .pointer (some (ad22.add 30)), .agg #[.int .i64 ((rd_T65 ((rd_T65 t3.1.f2 0).f2) 10).f0), .string ((rd_T65 ((rd_T65 t3.1.f2 0).f2) 10).f1), .slice B126999_2 (rd_T65 ((rd_T65 t3.1.f2 0).f2) 10).f2.length d126999_2], .pointer (some (ad17.add 3)), .pointer (some (ad17.add 4))) _ (HS.arr [some 0, some 1, some 2, some 3, some 5, some 4] (by decide)))
         simp only [putAll, Act.put, ptn, c14, c15, c20]
         (try rfl)
     · refine if_wp (by rfl) ?_; refine wp_box HS (by first | (go_simp; done) | (go_simp; rfl)) rfl ?_; clear HS; (try clear F); intro g10 w10 HS
       (try simp only [hpn, hpm] at HS)
       have F := HS.boxes; simp only [bxn] at F
       refine hK.out _ _ ⟨_, HS⟩ (fun HH => ?_)
       clear hK K
       refine norm_ (a' := ?_) ?_ ?_
       rotate_left
       · show Act.put _ (some 10) _ = _; simp only [Act.put, ptn, c14, c15, c20]; rfl
       refine dr_one 24 HT rfl (by kernel_rfl) (by decide) (fun K hK => ?_)
       refine goes_ Tryd.func60 (by kernel_rfl) rfl #[.agg #[.int .i64 ((rd_T65 ((rd_T65 t3.1.f2 0).f2) 9).f0), .string ((rd_T65 ((rd_T65 t3.1.f2 0).f2) 9).f1), .slice B122999_2 (rd_T65 ((rd_T65 t3.1.f2 0).f2) 9).f2.length d122999_2]] (by rfl) rfl rfl (by simp only [mpn]; rfl) ?_; refine (spec_l09TextsIn.calls ht124001.out (hV.ro km65 HS y122999_2) m122999_2).mono ?_; rintro _ wt124001 ⟨v124002, rfl, HQ⟩; refine ⟨_, rfl, ?_⟩; replace HS := HS.call HQ; clear HQ; (try clear F); obtain ⟨B124002, d124002, rfl, m124002⟩ := HS.form 4 rfl
       (try simp only [hpn, hpm] at HS)
       have F := HS.boxes; simp only [bxn] at F
       refine hK.out _ _ ⟨_, HS⟩ (fun HH => ?_)
       clear hK K
       refine norm_ (a' := ?_) ?_ ?_
       rotate_left
       · show Act.put _ (some 72) _ = _; simp only [Act.put, ptn, c14, c15, c20]; rfl
       refine dr_one 28 HT rfl (by kernel_rfl) (by decide) (fun K hK => ?_)
       refine goes_ Tryd.func60 (by kernel_rfl) rfl #[.agg #[.int .i64 ((rd_T65 ((rd_T65 t3.1.f2 0).f2) 10).f0), .string ((rd_T65 ((rd_T65 t3.1.f2 0).f2) 10).f1), .slice B126999_2 (rd_T65 ((rd_T65 t3.1.f2 0).f2) 10).f2.length d126999_2]] (by rfl) rfl rfl (by simp only [mpn]; rfl) ?_; refine (spec_l09TextsIn.calls ht128001.out (hV.ro km65 HS y126999_2) m126999_2).mono ?_; rintro _ wt128001 ⟨v128002, rfl, HQ⟩; refine ⟨_, rfl, ?_⟩; replace HS := HS.call HQ; clear HQ; (try clear F); obtain ⟨B128002, d128002, rfl, m128002⟩ := HS.form 5 rfl
       (try simp only [hpn, hpm] at HS)
       have F := HS.boxes; simp only [bxn] at F
       refine hK.out _ _ ⟨_, HS⟩ (fun HH => ?_)
       clear hK K
       refine norm_ (a' := ?_) ?_ ?_
       rotate_left
       · show Act.put _ (some 76) _ = _; simp only [Act.put, ptn, c14, c15, c20]; rfl
       refine drq_of [(33, some 81)] ?_
       repeat (first | (refine drq_pure HT (v := ?_) (a' := ?_) rfl rfl (by kernel_rfl) (fun _ _ _ h => h) (.inl ⟨by rfl, ?_⟩) ?_ ?_; rotate_left; (intro w'; go_simp; with_reducible rfl); rotate_left; (simp only [Act.put, ptn]; rfl)))
       refine drq_end ?_
       refine dr_last 35 HT rfl (by kernel_rfl) (by decide) (fun K hK => ?_)
       refine if_wp (by rfl) ?_; refine wp_store 3 0 HS (seg := [.int .i64 0, .string ((rd_T65 ((rd_T65 t3.1.f2 0).f2) 1).f1), .string ((rd_T65 ((rd_T65 t3.1.f2 0).f2) 3).f1), .int .i64 0, .int .i64 0, .string ((rd_T65 ((rd_T65 t3.1.f2 0).f2) 4).f1), .bool (((rd_T65 ((rd_T65 t3.1.f2 0).f2) 5).f1).toList == ([255] : List UInt8)), .int .i64 0, .int .i64 0, .slice B120002 t120001.length d120002, .slice B124002 t124001.length d124002, .slice B128002 t128001.length d128002, .string ((rd_T65 t3.1.f2 1).f1)]) rfl rfl rfl rfl rfl rfl (by kernel_rfl) (by simp [wrt]) (by simp [Value.oneCell']) ?_; clear HS; (try clear F); intro w135001 HS
       (try simp only [hpn, hpm] at HS)
       have F := HS.boxes; simp only [bxn] at F
       refine hK.out _ _ ?_
       clear hK K
       refine norm_ ?_ (hJ (.slice B120002 t120001.length d120002, .slice B124002 t124001.length d124002, .slice B128002 t128001.length d128002, g10, .pointer (some (ad22.add 3)), .pointer (some (ad22.add 4)), .pointer (some (ad22.add 9)), .pointer (some (ad22.add 10)), .pointer (some (ad22.add 12)), .pointer (some (ad22.add 13)), .pointer (some (ad22.add 15)), .pointer (some (ad22.add 16)), .pointer (some (ad22.add 24)), .agg #[.int .i64 ((rd_T65 ((rd_T65 t3.1.f2 0).f2) 8).f0), .string ((rd_T65 ((rd_T65 t3.1.f2 0).f2) 8).f1), .slice B118999_2 (rd_T65 ((rd_T65 t3.1.f2 0).f2) 8).f2.length d118999_2], .pointer (some (ad22.add 27)), .agg #[.int .i64 ((rd_T65 ((rd_T65 t3.1.f2 0).f2) 9).f0), .string ((rd_T65 ((rd_T65 t3.1.f2 0).f2) 9).f1), .slice B122999_2 (rd_T65 ((rd_T65 t3.1.f2 0).f2) 9).f2.length d122999_2], .pointer (some (ad22.add 30)), .agg #[.int .i64 ((rd_T65 ((rd_T65 t3.1.f2 0).f2) 10).f0), .string ((rd_T65 ((rd_T65 t3.1.f2 0).f2) 10).f1), .slice B126999_2 (rd_T65 ((rd_T65 t3.1.f2 0).f2) 10).f2.length d126999_2], .pointer (some (ad17.add 3)), .pointer (some (ad17.add 4))) _ (HS.arr [some 0, some 1, some 2, some 4, some 5, some 3] (by decide)))
       simp only [putAll, Act.put, ptn, c14, c15, c20]
       (try rfl)
   · refine if_wp (by rfl) ?_; refine wp_box HS (by first | (go_simp; done) | (go_simp; rfl)) rfl ?_; clear HS; (try clear F); intro g10 w10 HS
     (try simp only [hpn, hpm] at HS)
     have F := HS.boxes; simp only [bxn] at F
     refine hK.out _ _ ⟨_, HS⟩ (fun HH => ?_)
     clear hK K
     refine norm_ (a' := ?_) ?_ ?_
     rotate_left
     · show Act.put _ (some 10) _ = _; simp only [Act.put, ptn, c14, c15, c20]; rfl
     refine dr_one 20 HT rfl (by kernel_rfl) (by decide) (fun K hK => ?_)
     refine goes_ Tryd.func50 (by kernel_rfl) rfl #[.agg #[.int .i64 ((rd_T65 ((rd_T65 t3.1.f2 0).f2) 8).f0), .string ((rd_T65 ((rd_T65 t3.1.f2 0).f2) 8).f1), .slice B118999_2 (rd_T65 ((rd_T65 t3.1.f2 0).f2) 8).f2.length d118999_2]] (by rfl) rfl rfl (by simp only [mpn]; rfl) ?_; refine (spec_l09IntsIn.calls ht120001.out (hV.ro km65 HS y118999_2) m118999_2).mono ?_; rintro _ wt120001 ⟨v120002, rfl, HQ⟩; refine ⟨_, rfl, ?_⟩; replace HS := HS.call HQ; clear HQ; (try clear F); obtain ⟨B120002, d120002, rfl, m120002⟩ := HS.form 3 rfl
     (try simp only [hpn, hpm] at HS)
     have F := HS.boxes; simp only [bxn] at F
     refine hK.out _ _ ⟨_, HS⟩ (fun HH => ?_)
     clear hK K
     refine norm_ (a' := ?_) ?_ ?_
     rotate_left
     · show Act.put _ (some 68) _ = _; simp only [Act.put, ptn, c14, c15, c20]; rfl
     refine dr_one 24 HT rfl (by kernel_rfl) (by decide) (fun K hK => ?_)
     refine goes_ Tryd.func60 (by kernel_rfl) rfl #[.agg #[.int .i64 ((rd_T65 ((rd_T65 t3.1.f2 0).f2) 9).f0), .string ((rd_T65 ((rd_T65 t3.1.f2 0).f2) 9).f1), .slice B122999_2 (rd_T65 ((rd_T65 t3.1.f2 0).f2) 9).f2.length d122999_2]] (by rfl) rfl rfl (by simp only [mpn]; rfl) ?_; refine (spec_l09TextsIn.calls ht124001.out (hV.ro km65 HS y122999_2) m122999_2).mono ?_; rintro _ wt124001 ⟨v124002, rfl, HQ⟩; refine ⟨_, rfl, ?_⟩; replace HS := HS.call HQ; clear HQ; (try clear F); obtain ⟨B124002, d124002, rfl, m124002⟩ := HS.form 4 rfl
     (try simp only [hpn, hpm] at HS)
     have F := HS.boxes; simp only [bxn] at F
     refine hK.out _ _ ⟨_, HS⟩ (fun HH => ?_)
     clear hK K
     refine norm_ (a' := ?_) ?_ ?_
     rotate_left
     · show Act.put _ (some 72) _ = _; simp only [Act.put, ptn, c14, c15, c20]; rfl
     refine dr_one 28 HT rfl (by kernel_rfl) (by decide) (fun K hK => ?_)
     refine goes_ Tryd.func60 (by kernel_rfl) rfl #[.agg #[.int .i64 ((rd_T65 ((rd_T65 t3.1.f2 0).f2) 10).f0), .string ((rd_T65 ((rd_T65 t3.1.f2 0).f2) 10).f1), .slice B126999_2 (rd_T65 ((rd_T65 t3.1.f2 0).f2) 10).f2.length d126999_2]] (by rfl) rfl rfl (by simp only [mpn]; rfl) ?_; refine (spec_l09TextsIn.calls ht128001.out (hV.ro km65 HS y126999_2) m126999_2).mono ?_; rintro _ wt128001 ⟨v128002, rfl, HQ⟩; refine ⟨_, rfl, ?_⟩; replace HS := HS.call HQ; clear HQ; (try clear F); obtain ⟨B128002, d128002, rfl, m128002⟩ := HS.form 5 rfl
     (try simp only [hpn, hpm] at HS)
     have F := HS.boxes; simp only [bxn] at F
     refine hK.out _ _ ⟨_, HS⟩ (fun HH => ?_)
     clear hK K
     refine norm_ (a' := ?_) ?_ ?_
     rotate_left
     · show Act.put _ (some 76) _ = _; simp only [Act.put, ptn, c14, c15, c20]; rfl
     refine drq_of [(33, some 81)] ?_
     repeat (first | (refine drq_pure HT (v := ?_) (a' := ?_) rfl rfl (by kernel_rfl) (fun _ _ _ h => h) (.inl ⟨by rfl, ?_⟩) ?_ ?_; rotate_left; (intro w'; go_simp; with_reducible rfl); rotate_left; (simp only [Act.put, ptn]; rfl)))
     refine drq_end ?_
     refine dr_last 35 HT rfl (by kernel_rfl) (by decide) (fun K hK => ?_)
     refine if_wp (by rfl) ?_; refine wp_store 2 0 HS (seg := [.int .i64 0, .string ((rd_T65 ((rd_T65 t3.1.f2 0).f2) 1).f1), .string ((rd_T65 ((rd_T65 t3.1.f2 0).f2) 3).f1), .int .i64 0, .int .i64 0, .string ((rd_T65 ((rd_T65 t3.1.f2 0).f2) 4).f1), .bool (((rd_T65 ((rd_T65 t3.1.f2 0).f2) 5).f1).toList == ([255] : List UInt8)), .int .i64 0, .int .i64 0, .slice B120002 t120001.length d120002, .slice B124002 t124001.length d124002, .slice B128002 t128001.length d128002, .string ((rd_T65 t3.1.f2 1).f1)]) rfl rfl rfl rfl rfl rfl (by kernel_rfl) (by simp [wrt]) (by simp [Value.oneCell']) ?_; clear HS; (try clear F); intro w135001 HS
     (try simp only [hpn, hpm] at HS)
     have F := HS.boxes; simp only [bxn] at F
     refine hK.out _ _ ?_
     clear hK K
     refine norm_ ?_ (hJ (.slice B120002 t120001.length d120002, .slice B124002 t124001.length d124002, .slice B128002 t128001.length d128002, g10, .pointer (some (ad22.add 3)), .pointer (some (ad22.add 4)), .pointer (some (ad22.add 9)), .pointer (some (ad22.add 10)), .pointer (some (ad22.add 12)), .pointer (some (ad22.add 13)), .pointer (some (ad22.add 15)), .pointer (some (ad22.add 16)), .pointer (some (ad22.add 24)), .agg #[.int .i64 ((rd_T65 ((rd_T65 t3.1.f2 0).f2) 8).f0), .string ((rd_T65 ((rd_T65 t3.1.f2 0).f2) 8).f1), .slice B118999_2 (rd_T65 ((rd_T65 t3.1.f2 0).f2) 8).f2.length d118999_2], .pointer (some (ad22.add 27)), .agg #[.int .i64 ((rd_T65 ((rd_T65 t3.1.f2 0).f2) 9).f0), .string ((rd_T65 ((rd_T65 t3.1.f2 0).f2) 9).f1), .slice B122999_2 (rd_T65 ((rd_T65 t3.1.f2 0).f2) 9).f2.length d122999_2], .pointer (some (ad22.add 30)), .agg #[.int .i64 ((rd_T65 ((rd_T65 t3.1.f2 0).f2) 10).f0), .string ((rd_T65 ((rd_T65 t3.1.f2 0).f2) 10).f1), .slice B126999_2 (rd_T65 ((rd_T65 t3.1.f2 0).f2) 10).f2.length d126999_2], .pointer (some (ad17.add 3)), .pointer (some (ad17.add 4))) _ (HS.arr [some 0, some 1, some 3, some 4, some 5, some 2] (by decide)))
     simp only [putAll, Act.put, ptn, c14, c15, c20]
     (try rfl)
 rintro ⟨v120002, v124002, v128002, g10, pe49, pe50, pe53, pe54, pe57, pe58, pe61, pe62, pe66, pe67, pe70, pe71, pe74, pe75, pe78, pe79⟩ w199999 HS
 obtain ⟨B120002, d120002, rfl, m120002⟩ := HS.form 2 rfl
 obtain ⟨B124002, d124002, rfl, m124002⟩ := HS.form 3 rfl
 obtain ⟨B128002, d128002, rfl, m128002⟩ := HS.form 4 rfl
 have F := HS.boxes; simp only [bxn] at F
 refine norm_ (a' := ?_) ?_ ?_
 rotate_left
 · simp only [putAll, Act.put, ptn, c14, c15, c20]; rfl
 refine done_ (done_of HT.out (by kernel_rfl)) ?_
 by_cases c27 : 0 < ((rd_T65 t3.1.f2 0).f2.length : Int)
 case neg => exact zno c27 H
 replace H := zpos c27 H
 replace c27 := eq_true c27
 have c27n : (0 < (rd_T65 t3.1.f2 0).f2.length) = True := eq_true (by have := of_eq_true c27; omega)
 obtain ⟨ad28, B28_2, d28_2, hq28, e28_0, e28_1, e28_2, m28_2, y28_2⟩ := at_T65 y17_2 0 (of_eq_true (eq_true (by decide))) (of_eq_true c27)
 obtain rfl := Option.some.inj hq28
 (try (have e28_0' := e28_0; simp only [Int.toNat_zero, Int.reduceToNat, Int.toNat_natCast, Nat.zero_mul, Nat.one_mul, Nat.zero_add, Nat.add_zero, Addr.add_zero', Addr.add_succ', Nat.reduceMul, Nat.reduceAdd] at e28_0'))
 (try (have e28_1' := e28_1; simp only [Int.toNat_zero, Int.reduceToNat, Int.toNat_natCast, Nat.zero_mul, Nat.one_mul, Nat.zero_add, Nat.add_zero, Addr.add_zero', Addr.add_succ', Nat.reduceMul, Nat.reduceAdd] at e28_1'))
 (try (have e28_2' := e28_2; simp only [Int.toNat_zero, Int.reduceToNat, Int.toNat_natCast, Nat.zero_mul, Nat.one_mul, Nat.zero_add, Nat.add_zero, Addr.add_zero', Addr.add_succ', Nat.reduceMul, Nat.reduceAdd] at e28_2'))
 have e28_0_28 := (hV.keepc HS e28_0)
 have e28_1_28 := (hV.keepc HS e28_1)
 have e28_2_28 := (hV.keepc HS e28_2)
 (try have e28_0'_28 := (hV.keepc HS e28_0'))
 (try have e28_1'_28 := (hV.keepc HS e28_1'))
 (try have e28_2'_28 := (hV.keepc HS e28_2'))
 replace H := zbind H; obtain ⟨t29, ht29, H⟩ := H
 by_cases c34 : 0 < ((rd_T65 ((rd_T65 t3.1.f2 0).f2) 2).f2.length : Int)
 case neg => exact zno c34 H
 replace H := zpos c34 H
 replace c34 := eq_true c34
 have c34n : (0 < (rd_T65 ((rd_T65 t3.1.f2 0).f2) 2).f2.length) = True := eq_true (by have := of_eq_true c34; omega)
 replace H := zbind H; obtain ⟨t36, ht36, H⟩ := H
 by_cases c41 : 1 < ((rd_T65 ((rd_T65 t3.1.f2 0).f2) 2).f2.length : Int)
 case neg => exact zno c41 H
 replace H := zpos c41 H
 replace c41 := eq_true c41
 have c41n : (1 < (rd_T65 ((rd_T65 t3.1.f2 0).f2) 2).f2.length) = True := eq_true (by have := of_eq_true c41; omega)
 replace H := zbind H; obtain ⟨t43, ht43, H⟩ := H
 by_cases c47 : 6 < ((rd_T65 t3.1.f2 0).f2.length : Int)
 case neg => exact zno c47 H
 replace H := zpos c47 H
 replace c47 := eq_true c47
 have c47n : (6 < (rd_T65 t3.1.f2 0).f2.length) = True := eq_true (by have := of_eq_true c47; omega)
 replace H := zbind H; obtain ⟨t49, ht49, H⟩ := H
 by_cases c53 : 7 < ((rd_T65 t3.1.f2 0).f2.length : Int)
 case neg => exact zno c53 H
 replace H := zpos c53 H
 replace c53 := eq_true c53
 have c53n : (7 < (rd_T65 t3.1.f2 0).f2.length) = True := eq_true (by have := of_eq_true c53; omega)
 replace H := zbind H; obtain ⟨t55, ht55, H⟩ := H
 replace H := zbind H; obtain ⟨t59, ht59, H⟩ := H
 by_cases c61 : t59.2 = true
 case neg =>
  replace H := zneg c61 H
  replace c61 := eq_false_of_ne_true c61
  obtain ⟨rfl, rfl⟩ := zsome2 H
  go_wp2_with (first | ((with_reducible refine gate_dst (N := 86) rfl ?_); refine ev_call rfl Tryd.func49 (by kernel_rfl) rfl #[.agg #[.int .i64 ((rd_T65 ((rd_T65 t3.1.f2 0).f2) 0).f0), .string ((rd_T65 ((rd_T65 t3.1.f2 0).f2) 0).f1), .slice B28_2 (rd_T65 ((rd_T65 t3.1.f2 0).f2) 0).f2.length d28_2]] rfl (by simp only [mpn]; rfl) ?_; refine (spec_IntIn.calls ht29.out (hV.ro km65 HS y28_2) m28_2).mono ?_; rintro _ wt29 ⟨rfl, HQ⟩; refine ⟨_, rfl, ?_⟩; replace HS := HS.call HQ; clear HQ; (try clear F); (try simp only [hpn, hpm] at HS); have F := HS.boxes; simp only [bxn] at F) | ((with_reducible refine gate_store (p := 89) rfl ?_); refine ev_store rfl 5 0 HS (seg := [.int .i64 t29.1]) rfl rfl rfl rfl rfl rfl (by kernel_rfl) (by simp [wrt]) (by simp [Value.oneCell']) ?_; clear HS; (try clear F); intro w31 HS; (try simp only [hpn, hpm] at HS); have F := HS.boxes; simp only [bxn] at F; have e22_0_33 := (hV.keepc HS e22_0); have e22_1_33 := (hV.keepc HS e22_1); have e22_2_33 := (hV.keepc HS e22_2); (try have e22_0'_33 := (hV.keepc HS e22_0')); (try have e22_1'_33 := (hV.keepc HS e22_1')); (try have e22_2'_33 := (hV.keepc HS e22_2')); obtain ⟨ad35, B35_2, d35_2, rfl, e35_0, e35_1, e35_2, m35_2, y35_2⟩ := at_T65 y22_2 0 (of_eq_true (eq_true (by decide))) (of_eq_true c34); (try (have e35_0' := e35_0; simp only [Int.toNat_zero, Int.reduceToNat, Int.toNat_natCast, Nat.zero_mul, Nat.one_mul, Nat.zero_add, Nat.add_zero, Addr.add_zero', Addr.add_succ', Nat.reduceMul, Nat.reduceAdd] at e35_0')); (try (have e35_1' := e35_1; simp only [Int.toNat_zero, Int.reduceToNat, Int.toNat_natCast, Nat.zero_mul, Nat.one_mul, Nat.zero_add, Nat.add_zero, Addr.add_zero', Addr.add_succ', Nat.reduceMul, Nat.reduceAdd] at e35_1')); (try (have e35_2' := e35_2; simp only [Int.toNat_zero, Int.reduceToNat, Int.toNat_natCast, Nat.zero_mul, Nat.one_mul, Nat.zero_add, Nat.add_zero, Addr.add_zero', Addr.add_succ', Nat.reduceMul, Nat.reduceAdd] at e35_2')); have e35_0_35 := (hV.keepc HS e35_0); have e35_1_35 := (hV.keepc HS e35_1); have e35_2_35 := (hV.keepc HS e35_2); (try have e35_0'_35 := (hV.keepc HS e35_0')); (try have e35_1'_35 := (hV.keepc HS e35_1')); (try have e35_2'_35 := (hV.keepc HS e35_2'))) | ((with_reducible refine gate_dst (N := 97) rfl ?_); refine ev_call rfl Tryd.func49 (by kernel_rfl) rfl #[.agg #[.int .i64 ((rd_T65 ((rd_T65 ((rd_T65 t3.1.f2 0).f2) 2).f2) 0).f0), .string ((rd_T65 ((rd_T65 ((rd_T65 t3.1.f2 0).f2) 2).f2) 0).f1), .slice B35_2 (rd_T65 ((rd_T65 ((rd_T65 t3.1.f2 0).f2) 2).f2) 0).f2.length d35_2]] rfl (by simp only [mpn]; rfl) ?_; refine (spec_IntIn.calls ht36.out (hV.ro km65 HS y35_2) m35_2).mono ?_; rintro _ wt36 ⟨rfl, HQ⟩; refine ⟨_, rfl, ?_⟩; replace HS := HS.call HQ; clear HQ; (try clear F); (try simp only [hpn, hpm] at HS); have F := HS.boxes; simp only [bxn] at F) | ((with_reducible refine gate_store (p := 100) rfl ?_); refine ev_store rfl 5 3 HS (seg := [.int .i64 t36.1]) rfl rfl rfl rfl rfl rfl (by kernel_rfl) (by simp [wrt]) (by simp [Value.oneCell']) ?_; clear HS; (try clear F); intro w38 HS; (try simp only [hpn, hpm] at HS); have F := HS.boxes; simp only [bxn] at F; have e22_0_40 := (hV.keepc HS e22_0); have e22_1_40 := (hV.keepc HS e22_1); have e22_2_40 := (hV.keepc HS e22_2); (try have e22_0'_40 := (hV.keepc HS e22_0')); (try have e22_1'_40 := (hV.keepc HS e22_1')); (try have e22_2'_40 := (hV.keepc HS e22_2')); obtain ⟨ad42, B42_2, d42_2, hq42, e42_0, e42_1, e42_2, m42_2, y42_2⟩ := at_T65 y22_2 1 (of_eq_true (eq_true (by decide))) (of_eq_true c41); obtain rfl := Option.some.inj hq42; (try (have e42_0' := e42_0; simp only [Int.toNat_zero, Int.reduceToNat, Int.toNat_natCast, Nat.zero_mul, Nat.one_mul, Nat.zero_add, Nat.add_zero, Addr.add_zero', Addr.add_succ', Nat.reduceMul, Nat.reduceAdd] at e42_0')); (try (have e42_1' := e42_1; simp only [Int.toNat_zero, Int.reduceToNat, Int.toNat_natCast, Nat.zero_mul, Nat.one_mul, Nat.zero_add, Nat.add_zero, Addr.add_zero', Addr.add_succ', Nat.reduceMul, Nat.reduceAdd] at e42_1')); (try (have e42_2' := e42_2; simp only [Int.toNat_zero, Int.reduceToNat, Int.toNat_natCast, Nat.zero_mul, Nat.one_mul, Nat.zero_add, Nat.add_zero, Addr.add_zero', Addr.add_succ', Nat.reduceMul, Nat.reduceAdd] at e42_2')); have e42_0_42 := (hV.keepc HS e42_0); have e42_1_42 := (hV.keepc HS e42_1); have e42_2_42 := (hV.keepc HS e42_2); (try have e42_0'_42 := (hV.keepc HS e42_0')); (try have e42_1'_42 := (hV.keepc HS e42_1')); (try have e42_2'_42 := (hV.keepc HS e42_2'))) | ((with_reducible refine gate_dst (N := 108) rfl ?_); refine ev_call rfl Tryd.func49 (by kernel_rfl) rfl #[.agg #[.int .i64 ((rd_T65 ((rd_T65 ((rd_T65 t3.1.f2 0).f2) 2).f2) 1).f0), .string ((rd_T65 ((rd_T65 ((rd_T65 t3.1.f2 0).f2) 2).f2) 1).f1), .slice B42_2 (rd_T65 ((rd_T65 ((rd_T65 t3.1.f2 0).f2) 2).f2) 1).f2.length d42_2]] rfl (by simp only [mpn]; rfl) ?_; refine (spec_IntIn.calls ht43.out (hV.ro km65 HS y42_2) m42_2).mono ?_; rintro _ wt43 ⟨rfl, HQ⟩; refine ⟨_, rfl, ?_⟩; replace HS := HS.call HQ; clear HQ; (try clear F); (try simp only [hpn, hpm] at HS); have F := HS.boxes; simp only [bxn] at F) | ((with_reducible refine gate_store (p := 111) rfl ?_); refine ev_store rfl 5 4 HS (seg := [.int .i64 t43.1]) rfl rfl rfl rfl rfl rfl (by kernel_rfl) (by simp [wrt]) (by simp [Value.oneCell']) ?_; clear HS; (try clear F); intro w45 HS; (try simp only [hpn, hpm] at HS); have F := HS.boxes; simp only [bxn] at F; obtain ⟨ad48, B48_2, d48_2, hq48, e48_0, e48_1, e48_2, m48_2, y48_2⟩ := at_T65 y17_2 6 (of_eq_true (eq_true (by decide))) (of_eq_true c47); obtain rfl := Option.some.inj hq48; (try (have e48_0' := e48_0; simp only [Int.toNat_zero, Int.reduceToNat, Int.toNat_natCast, Nat.zero_mul, Nat.one_mul, Nat.zero_add, Nat.add_zero, Addr.add_zero', Addr.add_succ', Nat.reduceMul, Nat.reduceAdd] at e48_0')); (try (have e48_1' := e48_1; simp only [Int.toNat_zero, Int.reduceToNat, Int.toNat_natCast, Nat.zero_mul, Nat.one_mul, Nat.zero_add, Nat.add_zero, Addr.add_zero', Addr.add_succ', Nat.reduceMul, Nat.reduceAdd] at e48_1')); (try (have e48_2' := e48_2; simp only [Int.toNat_zero, Int.reduceToNat, Int.toNat_natCast, Nat.zero_mul, Nat.one_mul, Nat.zero_add, Nat.add_zero, Addr.add_zero', Addr.add_succ', Nat.reduceMul, Nat.reduceAdd] at e48_2')); have e48_0_48 := (hV.keepc HS e48_0); have e48_1_48 := (hV.keepc HS e48_1); have e48_2_48 := (hV.keepc HS e48_2); (try have e48_0'_48 := (hV.keepc HS e48_0')); (try have e48_1'_48 := (hV.keepc HS e48_1')); (try have e48_2'_48 := (hV.keepc HS e48_2'))) | ((with_reducible refine gate_dst (N := 116) rfl ?_); refine ev_call rfl Tryd.func49 (by kernel_rfl) rfl #[.agg #[.int .i64 ((rd_T65 ((rd_T65 t3.1.f2 0).f2) 6).f0), .string ((rd_T65 ((rd_T65 t3.1.f2 0).f2) 6).f1), .slice B48_2 (rd_T65 ((rd_T65 t3.1.f2 0).f2) 6).f2.length d48_2]] rfl (by simp only [mpn]; rfl) ?_; refine (spec_IntIn.calls ht49.out (hV.ro km65 HS y48_2) m48_2).mono ?_; rintro _ wt49 ⟨rfl, HQ⟩; refine ⟨_, rfl, ?_⟩; replace HS := HS.call HQ; clear HQ; (try clear F); (try simp only [hpn, hpm] at HS); have F := HS.boxes; simp only [bxn] at F) | ((with_reducible refine gate_store (p := 119) rfl ?_); refine ev_store rfl 5 7 HS (seg := [.int .i64 t49.1]) rfl rfl rfl rfl rfl rfl (by kernel_rfl) (by simp [wrt]) (by simp [Value.oneCell']) ?_; clear HS; (try clear F); intro w51 HS; (try simp only [hpn, hpm] at HS); have F := HS.boxes; simp only [bxn] at F; obtain ⟨ad54, B54_2, d54_2, hq54, e54_0, e54_1, e54_2, m54_2, y54_2⟩ := at_T65 y17_2 7 (of_eq_true (eq_true (by decide))) (of_eq_true c53); obtain rfl := Option.some.inj hq54; (try (have e54_0' := e54_0; simp only [Int.toNat_zero, Int.reduceToNat, Int.toNat_natCast, Nat.zero_mul, Nat.one_mul, Nat.zero_add, Nat.add_zero, Addr.add_zero', Addr.add_succ', Nat.reduceMul, Nat.reduceAdd] at e54_0')); (try (have e54_1' := e54_1; simp only [Int.toNat_zero, Int.reduceToNat, Int.toNat_natCast, Nat.zero_mul, Nat.one_mul, Nat.zero_add, Nat.add_zero, Addr.add_zero', Addr.add_succ', Nat.reduceMul, Nat.reduceAdd] at e54_1')); (try (have e54_2' := e54_2; simp only [Int.toNat_zero, Int.reduceToNat, Int.toNat_natCast, Nat.zero_mul, Nat.one_mul, Nat.zero_add, Nat.add_zero, Addr.add_zero', Addr.add_succ', Nat.reduceMul, Nat.reduceAdd] at e54_2')); have e54_0_54 := (hV.keepc HS e54_0); have e54_1_54 := (hV.keepc HS e54_1); have e54_2_54 := (hV.keepc HS e54_2); (try have e54_0'_54 := (hV.keepc HS e54_0')); (try have e54_1'_54 := (hV.keepc HS e54_1')); (try have e54_2'_54 := (hV.keepc HS e54_2'))) | ((with_reducible refine gate_dst (N := 124) rfl ?_); refine ev_call rfl Tryd.func49 (by kernel_rfl) rfl #[.agg #[.int .i64 ((rd_T65 ((rd_T65 t3.1.f2 0).f2) 7).f0), .string ((rd_T65 ((rd_T65 t3.1.f2 0).f2) 7).f1), .slice B54_2 (rd_T65 ((rd_T65 t3.1.f2 0).f2) 7).f2.length d54_2]] rfl (by simp only [mpn]; rfl) ?_; refine (spec_IntIn.calls ht55.out (hV.ro km65 HS y54_2) m54_2).mono ?_; rintro _ wt55 ⟨rfl, HQ⟩; refine ⟨_, rfl, ?_⟩; replace HS := HS.call HQ; clear HQ; (try clear F); (try simp only [hpn, hpm] at HS); have F := HS.boxes; simp only [bxn] at F) | ((with_reducible refine gate_store (p := 127) rfl ?_); refine ev_store rfl 5 8 HS (seg := [.int .i64 t55.1]) rfl rfl rfl rfl rfl rfl (by kernel_rfl) (by simp [wrt]) (by simp [Value.oneCell']) ?_; clear HS; (try clear F); intro w57 HS; (try simp only [hpn, hpm] at HS); have F := HS.boxes; simp only [bxn] at F) | ((with_reducible refine gate_dst (N := 130) rfl ?_); refine ev_call rfl Tryd.func9 (by kernel_rfl) rfl #[.agg #[.int .i64 t29.1, .string ((rd_T65 ((rd_T65 t3.1.f2 0).f2) 1).f1), .string ((rd_T65 ((rd_T65 t3.1.f2 0).f2) 3).f1), .int .i64 t36.1, .int .i64 t43.1, .string ((rd_T65 ((rd_T65 t3.1.f2 0).f2) 4).f1), .bool (((rd_T65 ((rd_T65 t3.1.f2 0).f2) 5).f1).toList == ([255] : List UInt8)), .int .i64 t49.1, .int .i64 t55.1, .slice B120002 t120001.length d120002, .slice B124002 t124001.length d124002, .slice B128002 t128001.length d128002, .string ((rd_T65 t3.1.f2 1).f1)]] rfl (by simp only [mpn]; rfl) ?_; refine (spec_CertText.calls ht59.out (HS.rd 2 rfl) m120002 (HS.rd 3 rfl) m124002 (HS.rd 4 rfl) m128002).mono ?_; rintro _ wt59 ⟨rfl, HQ⟩; refine ⟨_, rfl, ?_⟩; replace HS := HS.call HQ; clear HQ; (try clear F); (try simp only [hpn, hpm] at HS); have F := HS.boxes; simp only [bxn] at F; (try simp only [c61])) | ((with_reducible refine gate_store (p := 2) rfl ?_); refine ev_store rfl 0 0 HS (seg := [.int .i64 0, .string (⟨#[]⟩ : ByteArray), .string (⟨#[]⟩ : ByteArray), .int .i64 0, .int .i64 0, .string (⟨#[]⟩ : ByteArray), .bool false, .int .i64 0, .int .i64 0, .slice none 0 0, .slice none 0 0, .slice none 0 0, .string (⟨#[]⟩ : ByteArray)]) rfl rfl rfl rfl rfl rfl (by kernel_rfl) (by simp [wrt]) (by simp [Value.oneCell']) ?_; clear HS; (try clear F); intro w67 HS; (try simp only [hpn, hpm] at HS); have F := HS.boxes; simp only [bxn] at F))
  have HS := HB6 _ _ HS (Nat.le_of_ble_eq_true rfl)
  replace HS := HS.nil 3 (Zd.int .i64)
  replace HS := HS.nil 9 Zd.string
  replace HS := HS.nil 9 Zd.string
  exact bodyPost_ret (results_list (rs := [.cell 2 29, .tmp 3]) rfl (by simp) (.cell _ _ _ _ _ rfl (HS.boxAt (i := 0) rfl) Tryd.underlying29 rfl (by kernel_rfl) (.tmp .nil))) rfl ⟨_, _, _, rfl, HS.pick [7, 8, 9] (by decide) (by rfl)⟩
 replace H := zpos c61 H
 go_upto_if 139 with (first | ((with_reducible refine gate_dst (N := 86) rfl ?_); refine ev_call rfl Tryd.func49 (by kernel_rfl) rfl #[.agg #[.int .i64 ((rd_T65 ((rd_T65 t3.1.f2 0).f2) 0).f0), .string ((rd_T65 ((rd_T65 t3.1.f2 0).f2) 0).f1), .slice B28_2 (rd_T65 ((rd_T65 t3.1.f2 0).f2) 0).f2.length d28_2]] rfl (by simp only [mpn]; rfl) ?_; refine (spec_IntIn.calls ht29.out (hV.ro km65 HS y28_2) m28_2).mono ?_; rintro _ wt29 ⟨rfl, HQ⟩; refine ⟨_, rfl, ?_⟩; replace HS := HS.call HQ; clear HQ; (try clear F); (try simp only [hpn, hpm] at HS); have F := HS.boxes; simp only [bxn] at F) | ((with_reducible refine gate_store (p := 89) rfl ?_); refine ev_store rfl 5 0 HS (seg := [.int .i64 t29.1]) rfl rfl rfl rfl rfl rfl (by kernel_rfl) (by simp [wrt]) (by simp [Value.oneCell']) ?_; clear HS; (try clear F); intro w31 HS; (try simp only [hpn, hpm] at HS); have F := HS.boxes; simp only [bxn] at F; have e22_0_33 := (hV.keepc HS e22_0); have e22_1_33 := (hV.keepc HS e22_1); have e22_2_33 := (hV.keepc HS e22_2); (try have e22_0'_33 := (hV.keepc HS e22_0')); (try have e22_1'_33 := (hV.keepc HS e22_1')); (try have e22_2'_33 := (hV.keepc HS e22_2')); obtain ⟨ad35, B35_2, d35_2, rfl, e35_0, e35_1, e35_2, m35_2, y35_2⟩ := at_T65 y22_2 0 (of_eq_true (eq_true (by decide))) (of_eq_true c34); (try (have e35_0' := e35_0; simp only [Int.toNat_zero, Int.reduceToNat, Int.toNat_natCast, Nat.zero_mul, Nat.one_mul, Nat.zero_add, Nat.add_zero, Addr.add_zero', Addr.add_succ', Nat.reduceMul, Nat.reduceAdd] at e35_0')); (try (have e35_1' := e35_1; simp only [Int.toNat_zero, Int.reduceToNat, Int.toNat_natCast, Nat.zero_mul, Nat.one_mul, Nat.zero_add, Nat.add_zero, Addr.add_zero', Addr.add_succ', Nat.reduceMul, Nat.reduceAdd] at e35_1')); (try (have e35_2' := e35_2; simp only [Int.toNat_zero, Int.reduceToNat, Int.toNat_natCast, Nat.zero_mul, Nat.one_mul, Nat.zero_add, Nat.add_zero, Addr.add_zero', Addr.add_succ', Nat.reduceMul, Nat.reduceAdd] at e35_2')); have e35_0_35 := (hV.keepc HS e35_0); have e35_1_35 := (hV.keepc HS e35_1); have e35_2_35 := (hV.keepc HS e35_2); (try have e35_0'_35 := (hV.keepc HS e35_0')); (try have e35_1'_35 := (hV.keepc HS e35_1')); (try have e35_2'_35 := (hV.keepc HS e35_2'))) | ((with_reducible refine gate_dst (N := 97) rfl ?_); refine ev_call rfl Tryd.func49 (by kernel_rfl) rfl #[.agg #[.int .i64 ((rd_T65 ((rd_T65 ((rd_T65 t3.1.f2 0).f2) 2).f2) 0).f0), .string ((rd_T65 ((rd_T65 ((rd_T65 t3.1.f2 0).f2) 2).f2) 0).f1), .slice B35_2 (rd_T65 ((rd_T65 ((rd_T65 t3.1.f2 0).f2) 2).f2) 0).f2.length d35_2]] rfl (by simp only [mpn]; rfl) ?_; refine (spec_IntIn.calls ht36.out (hV.ro km65 HS y35_2) m35_2).mono ?_; rintro _ wt36 ⟨rfl, HQ⟩; refine ⟨_, rfl, ?_⟩; replace HS := HS.call HQ; clear HQ; (try clear F); (try simp only [hpn, hpm] at HS); have F := HS.boxes; simp only [bxn] at F) | ((with_reducible refine gate_store (p := 100) rfl ?_); refine ev_store rfl 5 3 HS (seg := [.int .i64 t36.1]) rfl rfl rfl rfl rfl rfl (by kernel_rfl) (by simp [wrt]) (by simp [Value.oneCell']) ?_; clear HS; (try clear F); intro w38 HS; (try simp only [hpn, hpm] at HS); have F := HS.boxes; simp only [bxn] at F; have e22_0_40 := (hV.keepc HS e22_0); have e22_1_40 := (hV.keepc HS e22_1); have e22_2_40 := (hV.keepc HS e22_2); (try have e22_0'_40 := (hV.keepc HS e22_0')); (try have e22_1'_40 := (hV.keepc HS e22_1')); (try have e22_2'_40 := (hV.keepc HS e22_2')); obtain ⟨ad42, B42_2, d42_2, hq42, e42_0, e42_1, e42_2, m42_2, y42_2⟩ := at_T65 y22_2 1 (of_eq_true (eq_true (by decide))) (of_eq_true c41); obtain rfl := Option.some.inj hq42; (try (have e42_0' := e42_0; simp only [Int.toNat_zero, Int.reduceToNat, Int.toNat_natCast, Nat.zero_mul, Nat.one_mul, Nat.zero_add, Nat.add_zero, Addr.add_zero', Addr.add_succ', Nat.reduceMul, Nat.reduceAdd] at e42_0')); (try (have e42_1' := e42_1; simp only [Int.toNat_zero, Int.reduceToNat, Int.toNat_natCast, Nat.zero_mul, Nat.one_mul, Nat.zero_add, Nat.add_zero, Addr.add_zero', Addr.add_succ', Nat.reduceMul, Nat.reduceAdd] at e42_1')); (try (have e42_2' := e42_2; simp only [Int.toNat_zero, Int.reduceToNat, Int.toNat_natCast, Nat.zero_mul, Nat.one_mul, Nat.zero_add, Nat.add_zero, Addr.add_zero', Addr.add_succ', Nat.reduceMul, Nat.reduceAdd] at e42_2')); have e42_0_42 := (hV.keepc HS e42_0); have e42_1_42 := (hV.keepc HS e42_1); have e42_2_42 := (hV.keepc HS e42_2); (try have e42_0'_42 := (hV.keepc HS e42_0')); (try have e42_1'_42 := (hV.keepc HS e42_1')); (try have e42_2'_42 := (hV.keepc HS e42_2'))) | ((with_reducible refine gate_dst (N := 108) rfl ?_); refine ev_call rfl Tryd.func49 (by kernel_rfl) rfl #[.agg #[.int .i64 ((rd_T65 ((rd_T65 ((rd_T65 t3.1.f2 0).f2) 2).f2) 1).f0), .string ((rd_T65 ((rd_T65 ((rd_T65 t3.1.f2 0).f2) 2).f2) 1).f1), .slice B42_2 (rd_T65 ((rd_T65 ((rd_T65 t3.1.f2 0).f2) 2).f2) 1).f2.length d42_2]] rfl (by simp only [mpn]; rfl) ?_; refine (spec_IntIn.calls ht43.out (hV.ro km65 HS y42_2) m42_2).mono ?_; rintro _ wt43 ⟨rfl, HQ⟩; refine ⟨_, rfl, ?_⟩; replace HS := HS.call HQ; clear HQ; (try clear F); (try simp only [hpn, hpm] at HS); have F := HS.boxes; simp only [bxn] at F) | ((with_reducible refine gate_store (p := 111) rfl ?_); refine ev_store rfl 5 4 HS (seg := [.int .i64 t43.1]) rfl rfl rfl rfl rfl rfl (by kernel_rfl) (by simp [wrt]) (by simp [Value.oneCell']) ?_; clear HS; (try clear F); intro w45 HS; (try simp only [hpn, hpm] at HS); have F := HS.boxes; simp only [bxn] at F; obtain ⟨ad48, B48_2, d48_2, hq48, e48_0, e48_1, e48_2, m48_2, y48_2⟩ := at_T65 y17_2 6 (of_eq_true (eq_true (by decide))) (of_eq_true c47); obtain rfl := Option.some.inj hq48; (try (have e48_0' := e48_0; simp only [Int.toNat_zero, Int.reduceToNat, Int.toNat_natCast, Nat.zero_mul, Nat.one_mul, Nat.zero_add, Nat.add_zero, Addr.add_zero', Addr.add_succ', Nat.reduceMul, Nat.reduceAdd] at e48_0')); (try (have e48_1' := e48_1; simp only [Int.toNat_zero, Int.reduceToNat, Int.toNat_natCast, Nat.zero_mul, Nat.one_mul, Nat.zero_add, Nat.add_zero, Addr.add_zero', Addr.add_succ', Nat.reduceMul, Nat.reduceAdd] at e48_1')); (try (have e48_2' := e48_2; simp only [Int.toNat_zero, Int.reduceToNat, Int.toNat_natCast, Nat.zero_mul, Nat.one_mul, Nat.zero_add, Nat.add_zero, Addr.add_zero', Addr.add_succ', Nat.reduceMul, Nat.reduceAdd] at e48_2')); have e48_0_48 := (hV.keepc HS e48_0); have e48_1_48 := (hV.keepc HS e48_1); have e48_2_48 := (hV.keepc HS e48_2); (try have e48_0'_48 := (hV.keepc HS e48_0')); (try have e48_1'_48 := (hV.keepc HS e48_1')); (try have e48_2'_48 := (hV.keepc HS e48_2'))) | ((with_reducible refine gate_dst (N := 116) rfl ?_); refine ev_call rfl Tryd.func49 (by kernel_rfl) rfl #[.agg #[.int .i64 ((rd_T65 ((rd_T65 t3.1.f2 0).f2) 6).f0), .string ((rd_T65 ((rd_T65 t3.1.f2 0).f2) 6).f1), .slice B48_2 (rd_T65 ((rd_T65 t3.1.f2 0).f2) 6).f2.length d48_2]] rfl (by simp only [mpn]; rfl) ?_; refine (spec_IntIn.calls ht49.out (hV.ro km65 HS y48_2) m48_2).mono ?_; rintro _ wt49 ⟨rfl, HQ⟩; refine ⟨_, rfl, ?_⟩; replace HS := HS.call HQ; clear HQ; (try clear F); (try simp only [hpn, hpm] at HS); have F := HS.boxes; simp only [bxn] at F) | ((with_reducible refine gate_store (p := 119) rfl ?_); refine ev_store rfl 5 7 HS (seg := [.int .i64 t49.1]) rfl rfl rfl rfl rfl rfl (by kernel_rfl) (by simp [wrt]) (by simp [Value.oneCell']) ?_; clear HS; (try clear F); intro w51 HS; (try simp only [hpn, hpm] at HS); have F := HS.boxes; simp only [bxn] at F; obtain ⟨ad54, B54_2, d54_2, hq54, e54_0, e54_1, e54_2, m54_2, y54_2⟩ := at_T65 y17_2 7 (of_eq_true (eq_true (by decide))) (of_eq_true c53); obtain rfl := Option.some.inj hq54; (try (have e54_0' := e54_0; simp only [Int.toNat_zero, Int.reduceToNat, Int.toNat_natCast, Nat.zero_mul, Nat.one_mul, Nat.zero_add, Nat.add_zero, Addr.add_zero', Addr.add_succ', Nat.reduceMul, Nat.reduceAdd] at e54_0')); (try (have e54_1' := e54_1; simp only [Int.toNat_zero, Int.reduceToNat, Int.toNat_natCast, Nat.zero_mul, Nat.one_mul, Nat.zero_add, Nat.add_zero, Addr.add_zero', Addr.add_succ', Nat.reduceMul, Nat.reduceAdd] at e54_1')); (try (have e54_2' := e54_2; simp only [Int.toNat_zero, Int.reduceToNat, Int.toNat_natCast, Nat.zero_mul, Nat.one_mul, Nat.zero_add, Nat.add_zero, Addr.add_zero', Addr.add_succ', Nat.reduceMul, Nat.reduceAdd] at e54_2')); have e54_0_54 := (hV.keepc HS e54_0); have e54_1_54 := (hV.keepc HS e54_1); have e54_2_54 := (hV.keepc HS e54_2); (try have e54_0'_54 := (hV.keepc HS e54_0')); (try have e54_1'_54 := (hV.keepc HS e54_1')); (try have e54_2'_54 := (hV.keepc HS e54_2'))) | ((with_reducible refine gate_dst (N := 124) rfl ?_); refine ev_call rfl Tryd.func49 (by kernel_rfl) rfl #[.agg #[.int .i64 ((rd_T65 ((rd_T65 t3.1.f2 0).f2) 7).f0), .string ((rd_T65 ((rd_T65 t3.1.f2 0).f2) 7).f1), .slice B54_2 (rd_T65 ((rd_T65 t3.1.f2 0).f2) 7).f2.length d54_2]] rfl (by simp only [mpn]; rfl) ?_; refine (spec_IntIn.calls ht55.out (hV.ro km65 HS y54_2) m54_2).mono ?_; rintro _ wt55 ⟨rfl, HQ⟩; refine ⟨_, rfl, ?_⟩; replace HS := HS.call HQ; clear HQ; (try clear F); (try simp only [hpn, hpm] at HS); have F := HS.boxes; simp only [bxn] at F) | ((with_reducible refine gate_store (p := 127) rfl ?_); refine ev_store rfl 5 8 HS (seg := [.int .i64 t55.1]) rfl rfl rfl rfl rfl rfl (by kernel_rfl) (by simp [wrt]) (by simp [Value.oneCell']) ?_; clear HS; (try clear F); intro w57 HS; (try simp only [hpn, hpm] at HS); have F := HS.boxes; simp only [bxn] at F) | ((with_reducible refine gate_dst (N := 130) rfl ?_); refine ev_call rfl Tryd.func9 (by kernel_rfl) rfl #[.agg #[.int .i64 t29.1, .string ((rd_T65 ((rd_T65 t3.1.f2 0).f2) 1).f1), .string ((rd_T65 ((rd_T65 t3.1.f2 0).f2) 3).f1), .int .i64 t36.1, .int .i64 t43.1, .string ((rd_T65 ((rd_T65 t3.1.f2 0).f2) 4).f1), .bool (((rd_T65 ((rd_T65 t3.1.f2 0).f2) 5).f1).toList == ([255] : List UInt8)), .int .i64 t49.1, .int .i64 t55.1, .slice B120002 t120001.length d120002, .slice B124002 t124001.length d124002, .slice B128002 t128001.length d128002, .string ((rd_T65 t3.1.f2 1).f1)]] rfl (by simp only [mpn]; rfl) ?_; refine (spec_CertText.calls ht59.out (HS.rd 2 rfl) m120002 (HS.rd 3 rfl) m124002 (HS.rd 4 rfl) m128002).mono ?_; rintro _ wt59 ⟨rfl, HQ⟩; refine ⟨_, rfl, ?_⟩; replace HS := HS.call HQ; clear HQ; (try clear F); (try simp only [hpn, hpm] at HS); have F := HS.boxes; simp only [bxn] at F; (try simp only [c61])))
 by_cases c62 : t59.1.toList = a0.toList
 case neg =>
  replace H := zneg c62 H
  have c62a := beq_eq_false_iff_ne.mpr c62
  have c62b := bne_iff_ne.mpr c62
  clear c62
  (try simp only [c62a, c62b, dcn])
  obtain ⟨rfl, rfl⟩ := zsome2 H
  go_wp2_with (first | ((with_reducible refine gate_store (p := 2) rfl ?_); refine ev_store rfl 0 0 HS (seg := [.int .i64 0, .string (⟨#[]⟩ : ByteArray), .string (⟨#[]⟩ : ByteArray), .int .i64 0, .int .i64 0, .string (⟨#[]⟩ : ByteArray), .bool false, .int .i64 0, .int .i64 0, .slice none 0 0, .slice none 0 0, .slice none 0 0, .string (⟨#[]⟩ : ByteArray)]) rfl rfl rfl rfl rfl rfl (by kernel_rfl) (by simp [wrt]) (by simp [Value.oneCell']) ?_; clear HS; (try clear F); intro w65 HS; (try simp only [hpn, hpm] at HS); have F := HS.boxes; simp only [bxn] at F))
  have HS := HB6 _ _ HS (Nat.le_of_ble_eq_true rfl)
  replace HS := HS.nil 3 (Zd.int .i64)
  replace HS := HS.nil 9 Zd.string
  replace HS := HS.nil 9 Zd.string
  exact bodyPost_ret (results_list (rs := [.cell 2 29, .tmp 3]) rfl (by simp) (.cell _ _ _ _ _ rfl (HS.boxAt (i := 0) rfl) Tryd.underlying29 rfl (by kernel_rfl) (.tmp .nil))) rfl ⟨_, _, _, rfl, HS.pick [7, 8, 9] (by decide) (by rfl)⟩
 replace H := zpos c62 H
 have c62a := beq_iff_eq.mpr c62
 have c62b := bne_eq_false_iff_eq.mpr c62
 clear c62
 (try simp only [c62a, c62b, dcn])
 obtain ⟨rfl, rfl⟩ := zsome2 H
 go_wp2_with (first | ((with_reducible refine gate_store (p := 2) rfl ?_); refine ev_store rfl 0 0 HS (seg := [.int .i64 t29.1, .string ((rd_T65 ((rd_T65 t3.1.f2 0).f2) 1).f1), .string ((rd_T65 ((rd_T65 t3.1.f2 0).f2) 3).f1), .int .i64 t36.1, .int .i64 t43.1, .string ((rd_T65 ((rd_T65 t3.1.f2 0).f2) 4).f1), .bool (((rd_T65 ((rd_T65 t3.1.f2 0).f2) 5).f1).toList == ([255] : List UInt8)), .int .i64 t49.1, .int .i64 t55.1, .slice B120002 t120001.length d120002, .slice B124002 t124001.length d124002, .slice B128002 t128001.length d128002, .string ((rd_T65 t3.1.f2 1).f1)]) rfl rfl rfl rfl rfl rfl (by kernel_rfl) (by simp [wrt]) (by simp [Value.oneCell']) ?_; clear HS; (try clear F); intro w63 HS; (try simp only [hpn, hpm] at HS); have F := HS.boxes; simp only [bxn] at F))
 have HS := HB6 _ _ HS (Nat.le_of_ble_eq_true rfl)
 exact bodyPost_ret (results_list (rs := [.cell 2 29, .tmp 3]) rfl (by simp) (.cell _ _ _ _ _ rfl (HS.boxAt (i := 0) rfl) Tryd.underlying29 rfl (by kernel_rfl) (.tmp .nil))) rfl ⟨_, _, _, rfl, HS.pick [3, 4, 5] (by decide) (by rfl)⟩
end Go.Proofs.YtoaoncnbimcdgaaDoor.F
