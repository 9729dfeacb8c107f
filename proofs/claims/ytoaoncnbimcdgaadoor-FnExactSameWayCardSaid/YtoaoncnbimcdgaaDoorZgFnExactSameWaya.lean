/- Functions of the program and of the law, and that their calls do what is written here. -/
import Derived.Test.YtoaoncnbimcdgaaDoorZgFnExactCertTexta
import Derived.Test.YtoaoncnbimcdgaaDoorZgFnExactCertTextf
import Derived.Test.YtoaoncnbimcdgaaDoorZgFnExactCertTextg
import Derived.Test.YtoaoncnbimcdgaaDoorZgFnExactCertTextk
namespace Go.Proofs.YtoaoncnbimcdgaaDoor.F
open Go.RowKit Go.Proofs.YtoaoncnbimcdgaaDoorW.PrintWords Go.Proofs.YtoaoncnbimcdgaaDoorW.PrintLast Go.Proofs.YtoaoncnbimcdgaaDoorW.PrintMore Go.Proofs.YtoaoncnbimcdgaaDoor.Z
attribute [local go_sem] max2_int min2_int max_two min_two max_three min_three max_four min_four
set_option linter.unusedVariables false
set_option linter.unusedSimpArgs false
set_option maxRecDepth 100000
/-! ### laws_szCertS: function 13 -/
def laws_szCertS.l0 : Nat → Int → Int → (List S25) → Option (Int)
  | 0, _, _, _ => none
  | k + 1, x12, x13, a0 => (if x13 < (a0.length : Int) then (if 0 ≤ x13 then (if x13 < (a0.length : Int) then ((laws_szCert.f k (rd_T25 a0 x13) x12).bind fun t19 => (if t19 < 0 then (some (-1)) else (laws_szCertS.l0 k t19 (wrap64 (x13 + 1)) a0))) else none) else none) else (some x12))
def laws_szCertS.f (k : Nat) (a0 : (List S25)) (a1 : Int) : Option (Int) := (if (wrap64 (a1 - (a0.length : Int))) < 0 then (some (-1)) else (laws_szCertS.l0 k (wrap64 (a1 - (a0.length : Int))) 0 a0))
set_option maxHeartbeats 16000000 in
theorem laws_szCertS.calls {k : Nat} {a0 : (List S25)} {a1 : Int} {Ap0 : Option Addr} {np0 cp0 : Nat} {r : Int} {w : World} (h : laws_szCertS.f k a0 a1 = some r) (gp0 : k25.C w Ap0 np0 a0) (lp0 : np0 ≤ cp0) :
    Calls Tryd.prog 13 #[.slice Ap0 np0 cp0, .int .i64 a1] w (fun e w' => e = .returned (.int .i64 r) ∧ Hp noFP w w' []) := by
 obtain rfl := C_len gp0
 have HS := Hp.start w
 have H := Aside0.mk h
 clear h
 unfold laws_szCertS.f at H
 go_enter Tryd.func13, Tryd.ntmps13
 by_cases c1 : (wrap64 (a1 - (a0.length : Int))) < 0
 · replace H := zpos c1 H
   replace c1 := eq_true c1
   obtain rfl := zsome H
   go_wp2
   go_ret
   exact ⟨rfl, HS.pick [] (by decide) (by rfl)⟩
 · replace H := zneg c1 H
   replace c1 := eq_false c1
   go_wp2
   go_loopg [1, 5] k (fun kq v_1 v_5 w' => ∃ (x12 : Int) (x13 : Int), v_1 = .int .i64 x12 ∧ v_5 = .int .i64 x13 ∧ Aside0 (laws_szCertS.l0 kq x12 x13 a0 = some r) ∧ Aside0 (kq ≤ k) ∧ Hp noFP w w' [])
   case atStart => exact ⟨_, _, rfl, rfl, H, ⟨Nat.le_refl _⟩, HS⟩
   case round =>
    clear HS H; (try clear F)
    obtain ⟨x12, x13, rfl, rfl, H, HKk11, HS⟩ := hrel
    cases gk with
    | zero => exact absurd H.out (by simp [laws_szCertS.l0])
    | succ k11 =>
     simp only [laws_szCertS.l0] at H
     by_cases c15 : x13 < (a0.length : Int)
     · replace H := zpos c15 H
       replace c15 := eq_true c15
       by_cases c16 : 0 ≤ x13
       case neg => exact zno c16 H
       replace H := zpos c16 H
       replace c16 := eq_true c16
       by_cases c17 : x13 < (a0.length : Int)
       case neg => exact zno c17 H
       replace H := zpos c17 H
       replace c17 := eq_true c17
       obtain ⟨ad18, B18_9, d18_9, B18_10, d18_10, B18_11, d18_11, rfl, e18_0, e18_1, e18_2, e18_3, e18_4, e18_5, e18_6, e18_7, e18_8, e18_9, e18_10, e18_11, e18_12, m18_9, y18_9, m18_10, y18_10, m18_11, y18_11⟩ := at_T25 gp0 x13 (of_eq_true c16) (of_eq_true c17)
       have e18_0_18 := (HS.keepc e18_0)
       have e18_1_18 := (HS.keepc e18_1)
       have e18_2_18 := (HS.keepc e18_2)
       have e18_3_18 := (HS.keepc e18_3)
       have e18_4_18 := (HS.keepc e18_4)
       have e18_5_18 := (HS.keepc e18_5)
       have e18_6_18 := (HS.keepc e18_6)
       have e18_7_18 := (HS.keepc e18_7)
       have e18_8_18 := (HS.keepc e18_8)
       have e18_9_18 := (HS.keepc e18_9)
       have e18_10_18 := (HS.keepc e18_10)
       have e18_11_18 := (HS.keepc e18_11)
       have e18_12_18 := (HS.keepc e18_12)
       replace H := zbind H; obtain ⟨t19, ht19, H⟩ := H
       go_upto_if 25 with (first | ((with_reducible refine gate_dst (N := 23) rfl ?_); refine ev_call rfl Tryd.func8 (by kernel_rfl) rfl #[.agg #[.int .i64 ((rd_T25 a0 x13).f0), .string ((rd_T25 a0 x13).f1), .string ((rd_T25 a0 x13).f2), .int .i64 ((rd_T25 a0 x13).f3), .int .i64 ((rd_T25 a0 x13).f4), .string ((rd_T25 a0 x13).f5), .bool ((rd_T25 a0 x13).f6), .int .i64 ((rd_T25 a0 x13).f7), .int .i64 ((rd_T25 a0 x13).f8), .slice B18_9 (rd_T25 a0 x13).f9.length d18_9, .slice B18_10 (rd_T25 a0 x13).f10.length d18_10, .slice B18_11 (rd_T25 a0 x13).f11.length d18_11, .string ((rd_T25 a0 x13).f12)], .int .i64 x12] rfl (by simp only [List.map_toArray, List.map_cons, List.map_nil]; rfl) ?_; refine (laws_szCert.calls ht19.out (HS.ro y18_9) m18_9 (HS.ro y18_10) m18_10 (HS.ro y18_11) m18_11).mono ?_; rintro _ wt19 ⟨rfl, HQ⟩; refine ⟨_, rfl, ?_⟩; replace HS := HS.call HQ; clear HQ; (try clear F); (try simp only [hpn, hpm] at HS)))
       by_cases c21 : t19 < 0
       · replace H := zpos c21 H
         replace c21 := eq_true c21
         (try simp only [c21, dcn])
         obtain rfl := zsome H
         go_wp2
         go_ret
         exact ⟨rfl, HS.pick [] (by decide) (by rfl)⟩
       · replace H := zneg c21 H
         replace c21 := eq_false c21
         (try simp only [c21, dcn])
         go_wp2
         go_roundg k11
         case measure => have := HKk11.out; omega
         case rel => exact ⟨_, _, rfl, rfl, H, ⟨by have := HKk11.out; omega⟩, HS.pick [] (by decide) (by rfl)⟩
     · replace H := zneg c15 H
       replace c15 := eq_false c15
       obtain rfl := zsome H
       go_wp2
       go_ret
       exact ⟨rfl, HS.pick [] (by decide) (by rfl)⟩
/-! ### laws_szWay: function 18 -/
def laws_szWay.f (k : Nat) (a0 : S41) (a1 : Int) : Option (Int) := ((laws_szCertS.f k a0.f1 a1).bind fun t3 => (if t3 < 0 then (some (-1)) else (some t3)))
set_option maxHeartbeats 16000000 in
theorem laws_szWay.calls {k : Nat} {a0 : S41} {a1 : Int} {Ap0 : Option Addr} {np0 cp0 : Nat} {r : Int} {w : World} (h : laws_szWay.f k a0 a1 = some r) (gp0 : k25.C w Ap0 np0 a0.f1) (lp0 : np0 ≤ cp0) :
    Calls Tryd.prog 18 #[.agg #[.int .i64 a0.f0, .slice Ap0 np0 cp0], .int .i64 a1] w (fun e w' => e = .returned (.int .i64 r) ∧ Hp noFP w w' []) := by
 obtain rfl := C_len gp0
 have HS := Hp.start w
 have H := Aside0.mk h
 clear h
 unfold laws_szWay.f at H
 go_enter Tryd.func18, Tryd.ntmps18
 replace H := zbind H; obtain ⟨t3, ht3, H⟩ := H
 go_upto_if 10 with (first | ((with_reducible refine gate_dst (N := 2) rfl ?_); refine ev_box rfl HS (by first | (go_simp; done) | (go_simp; rfl)) rfl ?_; clear HS; (try clear F); intro g2 w2 HS; (try simp only [hpn, hpm] at HS); have F := HS.boxes; simp only [boxFacts, and_true] at F) | ((with_reducible refine gate_dst (N := 8) rfl ?_); refine ev_call rfl Tryd.func13 (by kernel_rfl) rfl #[.slice Ap0 a0.f1.length cp0, .int .i64 a1] rfl (by simp only [List.map_toArray, List.map_cons, List.map_nil]; rfl) ?_; refine (laws_szCertS.calls ht3.out (HS.ro gp0) lp0).mono ?_; rintro _ wt3 ⟨rfl, HQ⟩; refine ⟨_, rfl, ?_⟩; replace HS := HS.call HQ; clear HQ; (try clear F); (try simp only [hpn, hpm] at HS); have F := HS.boxes; simp only [boxFacts, and_true] at F))
 by_cases c5 : t3 < 0
 · replace H := zpos c5 H
   replace c5 := eq_true c5
   (try simp only [c5, dcn])
   obtain rfl := zsome H
   go_wp2
   go_ret
   exact ⟨rfl, HS.pick [] (by decide) (by rfl)⟩
 · replace H := zneg c5 H
   replace c5 := eq_false c5
   (try simp only [c5, dcn])
   obtain rfl := zsome H
   go_wp2
   go_ret
   exact ⟨rfl, HS.pick [] (by decide) (by rfl)⟩
/-! ### spec_PathText: function 14 -/
def spec_PathText.l0 : Nat → ByteArray → Int → (List S29) → Option (ByteArray)
  | 0, _, _, _ => none
  | k + 1, x13, x14, a0 => (if x14 < (a0.length : Int) then (if 0 ≤ x14 then (if x14 < (a0.length : Int) then ((spec_CertText.f k (rd_T29 a0 x14)).bind fun t20 => (if x13.size + t20.1.size ≤ 9223372036854775807 then (spec_PathText.l0 k (x13 ++ t20.1) (wrap64 (x14 + 1)) a0) else none)) else none) else none) else (some x13))
def spec_PathText.f (k : Nat) (a0 : (List S29)) : Option (ByteArray) := (spec_PathText.l0 k (⟨#[]⟩ : ByteArray) 0 a0)
set_option maxHeartbeats 16000000 in
theorem spec_PathText.calls {k : Nat} {a0 : (List S29)} {Ap0 : Option Addr} {np0 cp0 : Nat} {r : ByteArray} {w : World} (h : spec_PathText.f k a0 = some r) (gp0 : k29.C w Ap0 np0 a0) (lp0 : np0 ≤ cp0) :
    Calls Tryd.prog 14 #[.slice Ap0 np0 cp0] w (fun e w' => e = .returned (.string r) ∧ Hp noFP w w' []) := by
 obtain rfl := C_len gp0
 have HS := Hp.start w
 have H := Aside0.mk h
 clear h
 unfold spec_PathText.f at H
 go_enter Tryd.func14, Tryd.ntmps14
 go_wp2
 go_loopg [3, 4] k (fun kq v_3 v_4 w' => ∃ (x13 : ByteArray) (x14 : Int), v_3 = .string x13 ∧ v_4 = .int .i64 x14 ∧ Aside0 (spec_PathText.l0 kq x13 x14 a0 = some r) ∧ Aside0 (kq ≤ k) ∧ Hp noFP w w' [])
 case atStart => exact ⟨_, _, rfl, rfl, H, ⟨Nat.le_refl _⟩, HS⟩
 case round =>
  clear HS H; (try clear F)
  obtain ⟨x13, x14, rfl, rfl, H, HKk12, HS⟩ := hrel
  cases gk with
  | zero => exact absurd H.out (by simp [spec_PathText.l0])
  | succ k12 =>
   simp only [spec_PathText.l0] at H
   by_cases c16 : x14 < (a0.length : Int)
   · replace H := zpos c16 H
     replace c16 := eq_true c16
     by_cases c17 : 0 ≤ x14
     case neg => exact zno c17 H
     replace H := zpos c17 H
     replace c17 := eq_true c17
     by_cases c18 : x14 < (a0.length : Int)
     case neg => exact zno c18 H
     replace H := zpos c18 H
     replace c18 := eq_true c18
     obtain ⟨ad19, B19_9, d19_9, B19_10, d19_10, B19_11, d19_11, rfl, e19_0, e19_1, e19_2, e19_3, e19_4, e19_5, e19_6, e19_7, e19_8, e19_9, e19_10, e19_11, e19_12, m19_9, y19_9, m19_10, y19_10, m19_11, y19_11⟩ := at_T29 gp0 x14 (of_eq_true c17) (of_eq_true c18)
     have e19_0_19 := (HS.keepc e19_0)
     have e19_1_19 := (HS.keepc e19_1)
     have e19_2_19 := (HS.keepc e19_2)
     have e19_3_19 := (HS.keepc e19_3)
     have e19_4_19 := (HS.keepc e19_4)
     have e19_5_19 := (HS.keepc e19_5)
     have e19_6_19 := (HS.keepc e19_6)
     have e19_7_19 := (HS.keepc e19_7)
     have e19_8_19 := (HS.keepc e19_8)
     have e19_9_19 := (HS.keepc e19_9)
     have e19_10_19 := (HS.keepc e19_10)
     have e19_11_19 := (HS.keepc e19_11)
     have e19_12_19 := (HS.keepc e19_12)
     replace H := zbind H; obtain ⟨t20, ht20, H⟩ := H
     by_cases c22 : x13.size + t20.1.size ≤ 9223372036854775807
     case neg => exact zno c22 H
     replace H := zpos c22 H
     replace c22 := eq_true c22
     go_wp2_with (first | ((with_reducible refine gate_dst (N := 18) rfl ?_); refine ev_call rfl Tryd.func9 (by kernel_rfl) rfl #[.agg #[.int .i64 ((rd_T29 a0 x14).f0), .string ((rd_T29 a0 x14).f1), .string ((rd_T29 a0 x14).f2), .int .i64 ((rd_T29 a0 x14).f3), .int .i64 ((rd_T29 a0 x14).f4), .string ((rd_T29 a0 x14).f5), .bool ((rd_T29 a0 x14).f6), .int .i64 ((rd_T29 a0 x14).f7), .int .i64 ((rd_T29 a0 x14).f8), .slice B19_9 (rd_T29 a0 x14).f9.length d19_9, .slice B19_10 (rd_T29 a0 x14).f10.length d19_10, .slice B19_11 (rd_T29 a0 x14).f11.length d19_11, .string ((rd_T29 a0 x14).f12)]] rfl (by simp only [List.map_toArray, List.map_cons, List.map_nil]; rfl) ?_; refine (spec_CertText.calls ht20.out (HS.ro y19_9) m19_9 (HS.ro y19_10) m19_10 (HS.ro y19_11) m19_11).mono ?_; rintro _ wt20 ⟨rfl, HQ⟩; refine ⟨_, rfl, ?_⟩; replace HS := HS.call HQ; clear HQ; (try clear F); (try simp only [hpn, hpm] at HS)) | ((with_reducible refine gate_dst (N := 23) rfl ?_); refine ev_val rfl (run_cat rfl rfl rfl (of_eq_true c22)) ?_))
     go_roundg k12
     case measure => have := HKk12.out; omega
     case rel => exact ⟨_, _, rfl, rfl, H, ⟨by have := HKk12.out; omega⟩, HS.pick [] (by decide) (by rfl)⟩
   · replace H := zneg c16 H
     replace c16 := eq_false c16
     obtain rfl := zsome H
     go_wp2
     go_ret
     exact ⟨rfl, HS.pick [] (by decide) (by rfl)⟩
/-! ### spec_SameWay: function 19 -/
def spec_SameWay.f (k : Nat) (a0 : S45) (a1 : S45) : Option (Bool) := (if a0.f0 = a1.f0 then ((spec_PathText.f k a0.f1).bind fun t108001 => ((spec_PathText.f k a1.f1).bind fun t111001 => (some (t108001.toList == t111001.toList)))) else (some false))
def spec_SameWay.T1 : Bool × List (List Nat × List Nat) := (true, [([], []), ([0], [0]), ([], []), ([2], [2]), ([1, 3], [1, 3]), ([4], [4]), ([5], [5]), ([6, 5], [5, 6]), ([7, 5, 5], [5, 7]), ([5], [5]), ([9, 5], [5, 9]), ([10, 8, 5], [5, 10]), ([8, 11, 5], [5, 8, 11]), ([5, 12], [5, 12]), ([13, 11, 0, 1, 2, 3, 4, 5, 6, 7, 8, 9, 10, 11, 12, 13], [13])])
theorem spec_SameWay.tT1 : rtab .any (opsOf Tryd.f19 1) = spec_SameWay.T1 := by kernel_rfl
set_option maxHeartbeats 16000000 in
theorem spec_SameWay.calls {k : Nat} {a0 : S45} {a1 : S45} {Ap0 : Option Addr} {np0 cp0 : Nat} {Ap1 : Option Addr} {np1 cp1 : Nat} {r : Bool} {w : World} (h : spec_SameWay.f k a0 a1 = some r) (gp0 : k29.C w Ap0 np0 a0.f1) (lp0 : np0 ≤ cp0) (gp1 : k29.C w Ap1 np1 a1.f1) (lp1 : np1 ≤ cp1) :
    Calls Tryd.prog 19 #[.agg #[.int .i64 a0.f0, .slice Ap0 np0 cp0], .agg #[.int .i64 a1.f0, .slice Ap1 np1 cp1]] w (fun e w' => e = .returned (.bool r) ∧ Hp noFP w w' []) := by
 obtain rfl := C_len gp0
 obtain rfl := C_len gp1
 have HS := Hp.start w
 have H := Aside0.mk h
 clear h
 unfold spec_SameWay.f at H
 go_enter Tryd.func19, Tryd.ntmps19
 go_wp2_with (first | ((with_reducible refine gate_dst (N := 2) rfl ?_); refine ev_box rfl HS (by first | (go_simp; done) | (go_simp; rfl)) rfl ?_; clear HS; (try clear F); intro g2 w2 HS; (try simp only [hpn, hpm] at HS); have F := HS.boxes; simp only [boxFacts, and_true] at F) | ((with_reducible refine gate_dst (N := 3) rfl ?_); refine ev_box rfl HS (by first | (go_simp; done) | (go_simp; rfl)) rfl ?_; clear HS; (try clear F); intro g3 w3 HS; (try simp only [hpn, hpm] at HS); have F := HS.boxes; simp only [boxFacts, and_true] at F))
 by_cases c105001 : a0.f0 = a1.f0
 · replace H := zpos c105001 H
   have c105001a := beq_iff_eq.mpr c105001
   have c105001b := bne_eq_false_iff_eq.mpr c105001
   clear c105001
   replace H := zbind H; obtain ⟨t108001, ht108001, H⟩ := H
   replace H := zbind H; obtain ⟨t111001, ht111001, H⟩ := H
   refine dr_start [] HS #[false, false, false, false, false, false, false, false, false, false, false, false, false, false, false] (by kernel_rfl) rfl rfl spec_SameWay.tT1 (fun w6 HT HS HH => ?_)
   (try clear F)
   refine drq_of [(0, some 5), (1, some 6), (2, some 7), (3, some 8), (4, some 9), (5, some 10), (6, some 11), (7, some 12), (9, some 14), (10, some 15)] ?_
   repeat (first | (refine drq_pure HT (v := ?_) (a' := ?_) rfl rfl (by kernel_rfl) (fun _ _ _ h => h) (.inl ⟨by rfl, ?_⟩) ?_ ?_; rotate_left; (intro w'; go_simp; with_reducible rfl); rotate_left; (simp only [Act.put, List.setIfInBounds_toArray, List.set_cons_zero, List.set_cons_succ, i64_w, i32_w]; rfl)) | (refine drq_take HT HH (v := ?_) (a' := ?_) rfl rfl (by kernel_rfl) (fun _ _ _ h => h) (.inl ⟨by rfl, ?_⟩) ?_ ?_; rotate_left; (rintro w' ⟨rs', HS'⟩; have F := HS'.boxes; simp only [boxFacts, List.cons_append, List.nil_append, and_true] at F; go_simp; with_reducible rfl); rotate_left; (simp only [Act.put, List.setIfInBounds_toArray, List.set_cons_zero, List.set_cons_succ, i64_w, i32_w]; rfl)))
   refine drq_end ?_
   refine dr_one 8 HT rfl (by kernel_rfl) (by decide) (fun K hK => ?_)
   refine goes_ Tryd.func14 (by kernel_rfl) rfl #[.slice Ap0 a0.f1.length cp0] (by rfl) rfl rfl (by simp only [List.map_toArray, List.map_cons, List.map_nil]; rfl) ?_; refine (spec_PathText.calls ht108001.out (HS.ro gp0) lp0).mono ?_; rintro _ wt108001 ⟨rfl, HQ⟩; refine ⟨_, rfl, ?_⟩; replace HS := HS.call HQ; clear HQ; (try clear F)
   (try simp only [hpn, hpm] at HS)
   have F := HS.boxes; simp only [boxFacts, and_true] at F
   refine hK.out _ _ ⟨_, HS⟩ (fun HH => ?_)
   clear hK K
   refine norm_ (a' := ?_) ?_ ?_
   rotate_left
   · show Act.put _ (some 13) _ = _; simp only [Act.put, List.setIfInBounds_toArray, List.set_cons_zero, List.set_cons_succ, i64_w, i32_w]; rfl
   refine dr_one 11 HT rfl (by kernel_rfl) (by decide) (fun K hK => ?_)
   refine goes_ Tryd.func14 (by kernel_rfl) rfl #[.slice Ap1 a1.f1.length cp1] (by rfl) rfl rfl (by simp only [List.map_toArray, List.map_cons, List.map_nil]; rfl) ?_; refine (spec_PathText.calls ht111001.out (HS.ro gp1) lp1).mono ?_; rintro _ wt111001 ⟨rfl, HQ⟩; refine ⟨_, rfl, ?_⟩; replace HS := HS.call HQ; clear HQ; (try clear F)
   (try simp only [hpn, hpm] at HS)
   have F := HS.boxes; simp only [boxFacts, and_true] at F
   refine hK.out _ _ ⟨_, HS⟩ (fun HH => ?_)
   clear hK K
   refine norm_ (a' := ?_) ?_ ?_
   rotate_left
   · show Act.put _ (some 16) _ = _; simp only [Act.put, List.setIfInBounds_toArray, List.set_cons_zero, List.set_cons_succ, i64_w, i32_w]; rfl
   refine drq_of [(12, some 17), (13, some 18), (14, some 4)] ?_
   repeat (first | (refine drq_pure HT (v := ?_) (a' := ?_) rfl rfl (by kernel_rfl) (fun _ _ _ h => h) (.inl ⟨by rfl, ?_⟩) ?_ ?_; rotate_left; (intro w'; go_simp; with_reducible rfl); rotate_left; (simp only [Act.put, List.setIfInBounds_toArray, List.set_cons_zero, List.set_cons_succ, i64_w, i32_w]; rfl)))
   refine drq_end ?_
   refine done_ (done_of HT.out (by kernel_rfl)) ?_
   (try clear F)
   have F := HS.boxes; simp only [boxFacts, and_true] at F
   obtain rfl := zsome H
   go_wp2
   go_ret
   exact ⟨rfl, HS.pick [] (by decide) (by rfl)⟩
 · replace H := zneg c105001 H
   have c105001a := beq_eq_false_iff_ne.mpr c105001
   have c105001b := bne_iff_ne.mpr c105001
   clear c105001
   refine dr_start [] HS #[false, false, false, false, false, false, false, false, false, false, false, false, false, false, false] (by kernel_rfl) rfl rfl spec_SameWay.tT1 (fun w8 HT HS HH => ?_)
   (try clear F)
   refine drq_of [(0, some 5), (1, some 6), (2, some 7), (3, some 8), (4, some 9), (5, some 10), (6, some 11), (7, some 12), (8, some 13), (9, some 14), (10, some 15), (11, some 16), (12, some 17), (13, some 18), (14, some 4)] ?_
   repeat (first | (refine drq_pure HT (v := ?_) (a' := ?_) rfl rfl (by kernel_rfl) (fun _ _ _ h => h) (.inl ⟨by rfl, ?_⟩) ?_ ?_; rotate_left; (intro w'; go_simp; with_reducible rfl); rotate_left; (simp only [Act.put, List.setIfInBounds_toArray, List.set_cons_zero, List.set_cons_succ, i64_w, i32_w]; rfl)) | (refine drq_pure HT (v := undef) (a' := ?_) rfl rfl (by kernel_rfl) (fun _ _ _ h => h) (.inr ⟨by rfl, rfl⟩) ?_ ?_; rotate_left; (simp only [Act.put, List.setIfInBounds_toArray, List.set_cons_zero, List.set_cons_succ, i64_w, i32_w]; rfl)) | (refine drq_take HT HH (v := ?_) (a' := ?_) rfl rfl (by kernel_rfl) (fun _ _ _ h => h) (.inl ⟨by rfl, ?_⟩) ?_ ?_; rotate_left; (rintro w' ⟨rs', HS'⟩; have F := HS'.boxes; simp only [boxFacts, List.cons_append, List.nil_append, and_true] at F; go_simp; with_reducible rfl); rotate_left; (simp only [Act.put, List.setIfInBounds_toArray, List.set_cons_zero, List.set_cons_succ, i64_w, i32_w]; rfl)))
   refine drq_end ?_
   refine done_ (done_of HT.out (by kernel_rfl)) ?_
   (try clear F)
   have F := HS.boxes; simp only [boxFacts, and_true] at F
   obtain rfl := zsome H
   go_wp2
   go_ret
   exact ⟨rfl, HS.pick [] (by decide) (by rfl)⟩
/-! ### laws_toCertS: function 15 -/
def laws_toCertS.l0 : Nat → (List S29) → Int → (List S25) → Option ((List S29))
  | 0, _, _, _ => none
  | k + 1, l23, x25, a0 => (if x25 < (a0.length : Int) then (if 0 ≤ x25 then (if x25 < (a0.length : Int) then ((laws_toCert.f k (rd_T25 a0 x25)).bind fun t31 => (laws_toCertS.l0 k (l23.set (x25).toNat t31) (wrap64 (x25 + 1)) a0)) else none) else none) else (some l23))
def laws_toCertS.f (k : Nat) (a0 : (List S25)) : Option ((List S29)) := (if 0 ≤ (a0.length : Int) then (if ((a0.length : Int)).toNat ≤ 1529755308210 then (laws_toCertS.l0 k (List.replicate a0.length z29) 0 a0) else none) else none)
set_option maxHeartbeats 16000000 in
theorem laws_toCertS.calls {k : Nat} {a0 : (List S25)} {Ap0 : Option Addr} {np0 cp0 : Nat} {r : (List S29)} {w : World} (h : laws_toCertS.f k a0 = some r) (gp0 : k25.C w Ap0 np0 a0) (lp0 : np0 ≤ cp0) :
    Calls Tryd.prog 15 #[.slice Ap0 np0 cp0] w (fun e w' => ∃ v0_ : Value, e = .returned (v0_) ∧ Hp noFP w w' [.own (Zd.slice 29 q29) r [v0_]]) := by
 obtain rfl := C_len gp0
 have HS := Hp.start w
 have H := Aside0.mk h
 clear h
 unfold laws_toCertS.f at H
 go_enter Tryd.func15, Tryd.ntmps15
 by_cases c1 : 0 ≤ (a0.length : Int)
 case neg => exact zno c1 H
 replace H := zpos c1 H
 replace c1 := eq_true c1
 by_cases c2 : ((a0.length : Int)).toNat ≤ 1529755308210
 case neg => exact zno c2 H
 replace H := zpos c2 H
 replace c2 := eq_true c2
 go_wp2_with (first | ((with_reducible refine gate_dst (N := 7) rfl ?_); refine ev_make rfl q29 z29 HS rfl (a0.length : Int) rfl rfl Tryd.underlying36 info29 rfl (by decide) (by decide) q29_zero (of_eq_true c1) (by have := of_eq_true c2; omega) ?_; clear HS; (try clear F); intro v3 w3 HS; obtain ⟨B3, d3, rfl, m3⟩ := HS.formn a0.length 0 rfl (by first | rfl | simp); (try simp only [hpn, hpm] at HS)))
 go_loopg [4] k (fun kq v_4 w' => ∃ (l23 : List S29) (x25 : Int), v_4 = .int .i64 x25 ∧ Aside0 (laws_toCertS.l0 kq l23 x25 a0 = some r) ∧ Aside0 (kq ≤ k) ∧ Hp noFP w w' [.own (Zd.slice 29 q29) l23 [.slice B3 a0.length d3]])
 case atStart => exact ⟨_, _, rfl, H, ⟨Nat.le_refl _⟩, HS⟩
 case round =>
  clear HS H; (try clear F)
  obtain ⟨l23, x25, rfl, H, HKk22, HS⟩ := hrel
  cases gk with
  | zero => exact absurd H.out (by simp [laws_toCertS.l0])
  | succ k22 =>
   simp only [laws_toCertS.l0] at H
   by_cases c27 : x25 < (a0.length : Int)
   · replace H := zpos c27 H
     replace c27 := eq_true c27
     by_cases c28 : 0 ≤ x25
     case neg => exact zno c28 H
     replace H := zpos c28 H
     replace c28 := eq_true c28
     by_cases c29 : x25 < (a0.length : Int)
     case neg => exact zno c29 H
     replace H := zpos c29 H
     replace c29 := eq_true c29
     obtain ⟨ad30, B30_9, d30_9, B30_10, d30_10, B30_11, d30_11, rfl, e30_0, e30_1, e30_2, e30_3, e30_4, e30_5, e30_6, e30_7, e30_8, e30_9, e30_10, e30_11, e30_12, m30_9, y30_9, m30_10, y30_10, m30_11, y30_11⟩ := at_T25 gp0 x25 (of_eq_true c28) (of_eq_true c29)
     have e30_0_30 := (HS.keepc e30_0)
     have e30_1_30 := (HS.keepc e30_1)
     have e30_2_30 := (HS.keepc e30_2)
     have e30_3_30 := (HS.keepc e30_3)
     have e30_4_30 := (HS.keepc e30_4)
     have e30_5_30 := (HS.keepc e30_5)
     have e30_6_30 := (HS.keepc e30_6)
     have e30_7_30 := (HS.keepc e30_7)
     have e30_8_30 := (HS.keepc e30_8)
     have e30_9_30 := (HS.keepc e30_9)
     have e30_10_30 := (HS.keepc e30_10)
     have e30_11_30 := (HS.keepc e30_11)
     have e30_12_30 := (HS.keepc e30_12)
     replace H := zbind H; obtain ⟨t31, ht31, H⟩ := H
     go_wp2_with (first | ((with_reducible refine gate_dst (N := 20) rfl ?_); refine ev_call rfl Tryd.func10 (by kernel_rfl) rfl #[.agg #[.int .i64 ((rd_T25 a0 x25).f0), .string ((rd_T25 a0 x25).f1), .string ((rd_T25 a0 x25).f2), .int .i64 ((rd_T25 a0 x25).f3), .int .i64 ((rd_T25 a0 x25).f4), .string ((rd_T25 a0 x25).f5), .bool ((rd_T25 a0 x25).f6), .int .i64 ((rd_T25 a0 x25).f7), .int .i64 ((rd_T25 a0 x25).f8), .slice B30_9 (rd_T25 a0 x25).f9.length d30_9, .slice B30_10 (rd_T25 a0 x25).f10.length d30_10, .slice B30_11 (rd_T25 a0 x25).f11.length d30_11, .string ((rd_T25 a0 x25).f12)]] rfl (by simp only [List.map_toArray, List.map_cons, List.map_nil]; rfl) ?_; refine (laws_toCert.calls ht31.out (HS.ro y30_9) m30_9 (HS.ro y30_10) m30_10 (HS.ro y30_11) m30_11).mono ?_; rintro _ wt31 ⟨v32, v33, v34, rfl, HQ⟩; refine ⟨_, rfl, ?_⟩; replace HS := HS.call HQ; clear HQ; (try clear F); obtain ⟨B32, d32, rfl, m32⟩ := HS.form 1 rfl; obtain ⟨B33, d33, rfl, m33⟩ := HS.form 2 rfl; obtain ⟨B34, d34, rfl, m34⟩ := HS.form 3 rfl; (try simp only [hpn, hpm] at HS); obtain ⟨ad36, B36_9, d36_9, B36_10, d36_10, B36_11, d36_11, rfl, e36_0, e36_1, e36_2, e36_3, e36_4, e36_5, e36_6, e36_7, e36_8, e36_9, e36_10, e36_11, e36_12, m36_9, y36_9, m36_10, y36_10, m36_11, y36_11⟩ := at_T29 (HS.rd 0 rfl) x25 (of_eq_true c28) (of_eq_true c29)) | ((with_reducible refine gate_store (p := 21) rfl ?_); refine ev_set rfl q29 0 [1, 2, 3] x25 t31 HS (seg := [.int .i64 t31.f0, .string t31.f1, .string t31.f2, .int .i64 t31.f3, .int .i64 t31.f4, .string t31.f5, .bool t31.f6, .int .i64 t31.f7, .int .i64 t31.f8, .slice B32 t31.f9.length d32, .slice B33 t31.f10.length d33, .slice B34 t31.f11.length d34, .string t31.f12]) rfl (by decide) rfl rfl rfl (by first | rfl | exact (Nat.mul_one _).symm) rfl rfl (by kernel_rfl) (by simp [Value.oneCell']) ⟨of_eq_true c28, of_eq_true c29⟩ rfl (fun S hd hh => q29_pack (x := t31) hd (hh 1 (.own (Zd.slice 3 (Zd.int .i64)) t31.f9 [.slice B32 t31.f9.length d32]) rfl) (hh 2 (.own (Zd.slice 9 Zd.string) t31.f10 [.slice B33 t31.f10.length d33]) rfl) (hh 3 (.own (Zd.slice 9 Zd.string) t31.f11 [.slice B34 t31.f11.length d34]) rfl) (by decide)) ?_; clear HS; (try clear F); intro w37 HS; (try simp only [hpn, hpm] at HS)))
     go_roundg k22
     case measure => have := HKk22.out; omega
     case rel => exact ⟨_, _, rfl, H, ⟨by have := HKk22.out; omega⟩, HS.pick [0] (by decide) (by rfl)⟩
   · replace H := zneg c27 H
     replace c27 := eq_false c27
     obtain rfl := zsome H
     go_wp2
     exact bodyPost_ret (results_single rfl (.tmp .nil)) rfl ⟨_, rfl, HS.pick [0] (by decide) (by rfl)⟩
/-! ### laws_toWay: function 20 -/
def laws_toWay.f (k : Nat) (a0 : S41) : Option (S45) := ((laws_toCertS.f k a0.f1).bind fun t9 => (some (⟨a0.f0, t9⟩ : S45)))
set_option maxHeartbeats 16000000 in
theorem laws_toWay.calls {k : Nat} {a0 : S41} {Ap0 : Option Addr} {np0 cp0 : Nat} {r : S45} {w : World} (h : laws_toWay.f k a0 = some r) (gp0 : k25.C w Ap0 np0 a0.f1) (lp0 : np0 ≤ cp0) :
    Calls Tryd.prog 20 #[.agg #[.int .i64 a0.f0, .slice Ap0 np0 cp0]] w (fun e w' => ∃ v0_ : Value, e = .returned (.agg #[.int .i64 r.f0, v0_]) ∧ Hp noFP w w' [.own (Zd.slice 29 q29) r.f1 [v0_]]) := by
 obtain rfl := C_len gp0
 have HS := Hp.start w
 have H := Aside0.mk h
 clear h
 unfold laws_toWay.f at H
 go_enter Tryd.func20, Tryd.ntmps20
 replace H := zbind H; obtain ⟨t9, ht9, H⟩ := H
 obtain rfl := zsome H
 go_wp2_with (first | ((with_reducible refine gate_dst (N := 1) rfl ?_); refine ev_box rfl HS (by first | (go_simp; done) | (go_simp; rfl)) rfl ?_; clear HS; (try clear F); intro g1 w1 HS; (try simp only [hpn, hpm] at HS); have F := HS.boxes; simp only [boxFacts, and_true] at F) | ((with_reducible refine gate_dst (N := 2) rfl ?_); refine ev_box rfl HS (by first | (go_simp; done) | (go_simp; rfl)) rfl ?_; clear HS; (try clear F); intro g2 w2 HS; (try simp only [hpn, hpm] at HS); have F := HS.boxes; simp only [boxFacts, and_true] at F) | ((with_reducible refine gate_dst (N := 3) rfl ?_); refine ev_box rfl HS (by first | (go_simp; done) | (go_simp; rfl)) rfl ?_; clear HS; (try clear F); intro g3 w3 HS; (try simp only [hpn, hpm] at HS); have F := HS.boxes; simp only [boxFacts, and_true] at F) | ((with_reducible refine gate_store (p := 6) rfl ?_); refine ev_store rfl 2 0 HS (seg := [.int .i64 a0.f0]) rfl rfl rfl rfl rfl rfl (by kernel_rfl) (by simp [wrt]) (by simp [Value.oneCell']) ?_; clear HS; (try clear F); intro w7 HS; (try simp only [hpn, hpm] at HS); have F := HS.boxes; simp only [boxFacts, and_true] at F) | ((with_reducible refine gate_dst (N := 9) rfl ?_); refine ev_call rfl Tryd.func15 (by kernel_rfl) rfl #[.slice Ap0 a0.f1.length cp0] rfl (by simp only [List.map_toArray, List.map_cons, List.map_nil]; rfl) ?_; refine (laws_toCertS.calls ht9.out (HS.ro gp0) lp0).mono ?_; rintro _ wt9 ⟨v10, rfl, HQ⟩; refine ⟨_, rfl, ?_⟩; replace HS := HS.call HQ; clear HQ; (try clear F); obtain ⟨B10, d10, rfl, m10⟩ := HS.form 3 rfl; (try simp only [hpn, hpm] at HS); have F := HS.boxes; simp only [boxFacts, and_true] at F) | ((with_reducible refine gate_store (p := 10) rfl ?_); refine ev_store rfl 2 1 HS (seg := [.slice B10 t9.length d10]) rfl rfl rfl rfl rfl rfl (by kernel_rfl) (by simp [wrt]) (by simp [Value.oneCell']) ?_; clear HS; (try clear F); intro w12 HS; (try simp only [hpn, hpm] at HS); have F := HS.boxes; simp only [boxFacts, and_true] at F) | ((with_reducible refine gate_store (p := 2) rfl ?_); refine ev_store rfl 1 0 HS (seg := [.int .i64 a0.f0, .slice B10 t9.length d10]) rfl rfl rfl rfl rfl rfl (by kernel_rfl) (by simp [wrt]) (by simp [Value.oneCell']) ?_; clear HS; (try clear F); intro w14 HS; (try simp only [hpn, hpm] at HS); have F := HS.boxes; simp only [boxFacts, and_true] at F))
 exact bodyPost_ret (results_single rfl (.cell _ _ _ _ _ rfl (HS.boxAt (i := 1) rfl) Tryd.underlying45 rfl (by kernel_rfl) .nil)) rfl ⟨_, rfl, HS.pick [3] (by decide) (by rfl)⟩
/-! ### impl_PathText: function 16 -/
def impl_PathText.l0 : Nat → (List Int) → Int → (List S29) → Option (ByteArray)
  | 0, _, _, _ => none
  | k + 1, l18, x20, a0 => (if x20 < (a0.length : Int) then (if 0 ≤ x20 then (if x20 < (a0.length : Int) then ((impl_CertText.f k (rd_T29 a0 x20)).bind fun t30 => (if l18.length + t30.1.size ≤ 140737488355328 then (lets (l18 ++ bytesOf t30.1) fun y33 => (impl_PathText.l0 k y33 (wrap64 (x20 + 1)) a0)) else none)) else none) else none) else (some (strOfNums l18)))
def impl_PathText.f (k : Nat) (a0 : (List S29)) : Option (ByteArray) := (impl_PathText.l0 k [] 0 a0)
set_option maxHeartbeats 16000000 in
theorem impl_PathText.calls {k : Nat} {a0 : (List S29)} {Ap0 : Option Addr} {np0 cp0 : Nat} {mG : Int} {r : ByteArray} {w : World} (h : impl_PathText.f k a0 = some r) (gp0 : k29.C w Ap0 np0 a0) (lp0 : np0 ≤ cp0) (hgM : w.cell? ⟨0, 0, none⟩ = some (.int .i64 mG)) :
    Calls Tryd.prog 16 #[.slice Ap0 np0 cp0] w (fun e w' => e = .returned (.string r) ∧ Hp noFP w w' []) := by
 obtain rfl := C_len gp0
 have HS := Hp.start w
 have H := Aside0.mk h
 clear h
 unfold impl_PathText.f at H
 go_enter Tryd.func16, Tryd.ntmps16
 go_wp2
 replace HS := HS.nil 5 (Zd.int .u8)
 go_loopg [3, 10] k (fun kq v_3 v_10 w' => ∃ (l18 : List Int) (v19 : Value) (x20 : Int), v_3 = v19 ∧ v_10 = .int .i64 x20 ∧ Aside0 (impl_PathText.l0 kq l18 x20 a0 = some r) ∧ Aside0 (kq ≤ k) ∧ Hp noFP w w' [.own (Zd.slice 5 (Zd.int .u8)) l18 [v19]])
 case atStart => exact ⟨_, _, _, rfl, rfl, H, ⟨Nat.le_refl _⟩, HS⟩
 case round =>
  clear HS H; (try clear F)
  obtain ⟨l18, v19, x20, rfl, rfl, H, HKk17, HS⟩ := hrel
  obtain ⟨B19, d19, rfl, m19⟩ := HS.form 0 rfl
  cases gk with
  | zero => exact absurd H.out (by simp [impl_PathText.l0])
  | succ k17 =>
   simp only [impl_PathText.l0] at H
   by_cases c22 : x20 < (a0.length : Int)
   · replace H := zpos c22 H
     replace c22 := eq_true c22
     by_cases c23 : 0 ≤ x20
     case neg => exact zno c23 H
     replace H := zpos c23 H
     replace c23 := eq_true c23
     by_cases c24 : x20 < (a0.length : Int)
     case neg => exact zno c24 H
     replace H := zpos c24 H
     replace c24 := eq_true c24
     obtain ⟨ad25, B25_9, d25_9, B25_10, d25_10, B25_11, d25_11, rfl, e25_0, e25_1, e25_2, e25_3, e25_4, e25_5, e25_6, e25_7, e25_8, e25_9, e25_10, e25_11, e25_12, m25_9, y25_9, m25_10, y25_10, m25_11, y25_11⟩ := at_T29 gp0 x20 (of_eq_true c23) (of_eq_true c24)
     have e25_0_25 := (HS.keepc e25_0)
     have e25_1_25 := (HS.keepc e25_1)
     have e25_2_25 := (HS.keepc e25_2)
     have e25_3_25 := (HS.keepc e25_3)
     have e25_4_25 := (HS.keepc e25_4)
     have e25_5_25 := (HS.keepc e25_5)
     have e25_6_25 := (HS.keepc e25_6)
     have e25_7_25 := (HS.keepc e25_7)
     have e25_8_25 := (HS.keepc e25_8)
     have e25_9_25 := (HS.keepc e25_9)
     have e25_10_25 := (HS.keepc e25_10)
     have e25_11_25 := (HS.keepc e25_11)
     have e25_12_25 := (HS.keepc e25_12)
     replace H := zbind H; obtain ⟨t30, ht30, H⟩ := H
     by_cases c32 : l18.length + t30.1.size ≤ 140737488355328
     case neg => exact zno c32 H
     replace H := zpos c32 H
     replace c32 := eq_true c32
     replace H := zlets H; obtain ⟨y33, e_y33, H⟩ := H
     go_wp2_with (first | ((with_reducible refine gate_dst (N := 5) rfl ?_); refine ev_box rfl HS (by first | (go_simp; done) | (go_simp; rfl)) rfl ?_; clear HS; (try clear F); intro g5 w5 HS; (try simp only [hpn, hpm] at HS); have F := HS.boxes; simp only [boxFacts, and_true] at F) | ((with_reducible refine gate_store (p := 5) rfl ?_); refine ev_store rfl 1 0 HS (seg := [.int .i64 ((rd_T29 a0 x20).f0), .string ((rd_T29 a0 x20).f1), .string ((rd_T29 a0 x20).f2), .int .i64 ((rd_T29 a0 x20).f3), .int .i64 ((rd_T29 a0 x20).f4), .string ((rd_T29 a0 x20).f5), .bool ((rd_T29 a0 x20).f6), .int .i64 ((rd_T29 a0 x20).f7), .int .i64 ((rd_T29 a0 x20).f8), .slice B25_9 (rd_T29 a0 x20).f9.length d25_9, .slice B25_10 (rd_T29 a0 x20).f10.length d25_10, .slice B25_11 (rd_T29 a0 x20).f11.length d25_11, .string ((rd_T29 a0 x20).f12)]) rfl rfl rfl rfl rfl rfl (by kernel_rfl) (by simp [wrt]) (by simp [Value.oneCell']) ?_; clear HS; (try clear F); intro w28 HS; (try simp only [hpn, hpm] at HS); have F := HS.boxes; simp only [boxFacts, and_true] at F) | ((with_reducible refine gate_dst (N := 16) rfl ?_); refine ev_call rfl Tryd.func11 (by kernel_rfl) rfl #[.agg #[.int .i64 ((rd_T29 a0 x20).f0), .string ((rd_T29 a0 x20).f1), .string ((rd_T29 a0 x20).f2), .int .i64 ((rd_T29 a0 x20).f3), .int .i64 ((rd_T29 a0 x20).f4), .string ((rd_T29 a0 x20).f5), .bool ((rd_T29 a0 x20).f6), .int .i64 ((rd_T29 a0 x20).f7), .int .i64 ((rd_T29 a0 x20).f8), .slice B25_9 (rd_T29 a0 x20).f9.length d25_9, .slice B25_10 (rd_T29 a0 x20).f10.length d25_10, .slice B25_11 (rd_T29 a0 x20).f11.length d25_11, .string ((rd_T29 a0 x20).f12)]] rfl (by simp only [List.map_toArray, List.map_cons, List.map_nil]; rfl) ?_; refine (impl_CertText.calls ht30.out (HS.ro y25_9) m25_9 (HS.ro y25_10) m25_10 (HS.ro y25_11) m25_11 (HS.keepc hgM)).mono ?_; rintro _ wt30 ⟨rfl, HQ⟩; refine ⟨_, rfl, ?_⟩; replace HS := HS.call HQ; clear HQ; (try clear F); (try simp only [hpn, hpm] at HS); have F := HS.boxes; simp only [boxFacts, and_true] at F) | ((with_reducible refine gate_dst (N := 21) rfl ?_); refine ev_appends rfl 0 HS rfl rfl rfl rfl Tryd.underlying73 Tryd.underlying9 info5 (by have := of_eq_true c32; first | omega | (simp only [List.length_cons, List.length_nil, List.length_append, Nat.zero_add] at this ⊢; omega)) ?_; clear HS; (try clear F); intro v33 w33 HS; rw [← e_y33.out] at HS; obtain ⟨B33, d33, rfl, m33⟩ := HS.form 2 rfl; (try simp only [hpn, hpm] at HS); have F := HS.boxes; simp only [boxFacts, and_true] at F))
     go_roundg k17
     case measure => have := HKk17.out; omega
     case rel => exact ⟨_, _, _, rfl, rfl, H, ⟨by have := HKk17.out; omega⟩, HS.pick [2] (by decide) (by rfl)⟩
   · replace H := zneg c22 H
     replace c22 := eq_false c22
     obtain rfl := zsome H
     go_wp2_with (first | ((with_reducible refine gate_dst (N := 24) rfl ?_); refine ev_val rfl (run_str rfl rfl Tryd.underlying73 Tryd.underlying5 Tryd.underlying9 (HS.rd 0 rfl)) ?_))
     go_ret
     exact ⟨rfl, HS.pick [] (by decide) (by rfl)⟩
/-! ### impl_SameWay: function 21 -/
def impl_SameWay.f (k : Nat) (a0 : S45) (a1 : S45) : Option (Bool) := (if a0.f0 = a1.f0 then ((impl_PathText.f k a0.f1).bind fun t108001 => ((impl_PathText.f k a1.f1).bind fun t111001 => (some (t108001.toList == t111001.toList)))) else (some false))
def impl_SameWay.T1 : Bool × List (List Nat × List Nat) := (true, [([], []), ([0], [0]), ([], []), ([2], [2]), ([1, 3], [1, 3]), ([4], [4]), ([5], [5]), ([6, 5], [5, 6]), ([7, 5, 5], [5, 7]), ([5], [5]), ([9, 5], [5, 9]), ([10, 8, 5], [5, 10]), ([8, 11, 5], [5, 8, 11]), ([5, 12], [5, 12]), ([13, 11, 0, 1, 2, 3, 4, 5, 6, 7, 8, 9, 10, 11, 12, 13], [13])])
theorem impl_SameWay.tT1 : rtab .any (opsOf Tryd.f21 1) = impl_SameWay.T1 := by kernel_rfl
set_option maxHeartbeats 16000000 in
theorem impl_SameWay.calls {k : Nat} {a0 : S45} {a1 : S45} {Ap0 : Option Addr} {np0 cp0 : Nat} {Ap1 : Option Addr} {np1 cp1 : Nat} {mG : Int} {r : Bool} {w : World} (h : impl_SameWay.f k a0 a1 = some r) (gp0 : k29.C w Ap0 np0 a0.f1) (lp0 : np0 ≤ cp0) (gp1 : k29.C w Ap1 np1 a1.f1) (lp1 : np1 ≤ cp1) (hgM : w.cell? ⟨0, 0, none⟩ = some (.int .i64 mG)) :
    Calls Tryd.prog 21 #[.agg #[.int .i64 a0.f0, .slice Ap0 np0 cp0], .agg #[.int .i64 a1.f0, .slice Ap1 np1 cp1]] w (fun e w' => e = .returned (.bool r) ∧ Hp noFP w w' []) := by
 obtain rfl := C_len gp0
 obtain rfl := C_len gp1
 have HS := Hp.start w
 have H := Aside0.mk h
 clear h
 unfold impl_SameWay.f at H
 go_enter Tryd.func21, Tryd.ntmps21
 go_wp2_with (first | ((with_reducible refine gate_dst (N := 2) rfl ?_); refine ev_box rfl HS (by first | (go_simp; done) | (go_simp; rfl)) rfl ?_; clear HS; (try clear F); intro g2 w2 HS; (try simp only [hpn, hpm] at HS); have F := HS.boxes; simp only [boxFacts, and_true] at F) | ((with_reducible refine gate_dst (N := 3) rfl ?_); refine ev_box rfl HS (by first | (go_simp; done) | (go_simp; rfl)) rfl ?_; clear HS; (try clear F); intro g3 w3 HS; (try simp only [hpn, hpm] at HS); have F := HS.boxes; simp only [boxFacts, and_true] at F))
 by_cases c105001 : a0.f0 = a1.f0
 · replace H := zpos c105001 H
   have c105001a := beq_iff_eq.mpr c105001
   have c105001b := bne_eq_false_iff_eq.mpr c105001
   clear c105001
   replace H := zbind H; obtain ⟨t108001, ht108001, H⟩ := H
   replace H := zbind H; obtain ⟨t111001, ht111001, H⟩ := H
   refine dr_start [] HS #[false, false, false, false, false, false, false, false, false, false, false, false, false, false, false] (by kernel_rfl) rfl rfl impl_SameWay.tT1 (fun w6 HT HS HH => ?_)
   (try clear F)
   refine drq_of [(0, some 5), (1, some 6), (2, some 7), (3, some 8), (4, some 9), (5, some 10), (6, some 11), (7, some 12), (9, some 14), (10, some 15)] ?_
   repeat (first | (refine drq_pure HT (v := ?_) (a' := ?_) rfl rfl (by kernel_rfl) (fun _ _ _ h => h) (.inl ⟨by rfl, ?_⟩) ?_ ?_; rotate_left; (intro w'; go_simp; with_reducible rfl); rotate_left; (simp only [Act.put, List.setIfInBounds_toArray, List.set_cons_zero, List.set_cons_succ, i64_w, i32_w]; rfl)) | (refine drq_take HT HH (v := ?_) (a' := ?_) rfl rfl (by kernel_rfl) (fun _ _ _ h => h) (.inl ⟨by rfl, ?_⟩) ?_ ?_; rotate_left; (rintro w' ⟨rs', HS'⟩; have F := HS'.boxes; simp only [boxFacts, List.cons_append, List.nil_append, and_true] at F; go_simp; with_reducible rfl); rotate_left; (simp only [Act.put, List.setIfInBounds_toArray, List.set_cons_zero, List.set_cons_succ, i64_w, i32_w]; rfl)))
   refine drq_end ?_
   refine dr_one 8 HT rfl (by kernel_rfl) (by decide) (fun K hK => ?_)
   refine goes_ Tryd.func16 (by kernel_rfl) rfl #[.slice Ap0 a0.f1.length cp0] (by rfl) rfl rfl (by simp only [List.map_toArray, List.map_cons, List.map_nil]; rfl) ?_; refine (impl_PathText.calls ht108001.out (HS.ro gp0) lp0 (HS.keepc hgM)).mono ?_; rintro _ wt108001 ⟨rfl, HQ⟩; refine ⟨_, rfl, ?_⟩; replace HS := HS.call HQ; clear HQ; (try clear F)
   (try simp only [hpn, hpm] at HS)
   have F := HS.boxes; simp only [boxFacts, and_true] at F
   refine hK.out _ _ ⟨_, HS⟩ (fun HH => ?_)
   clear hK K
   refine norm_ (a' := ?_) ?_ ?_
   rotate_left
   · show Act.put _ (some 13) _ = _; simp only [Act.put, List.setIfInBounds_toArray, List.set_cons_zero, List.set_cons_succ, i64_w, i32_w]; rfl
   refine dr_one 11 HT rfl (by kernel_rfl) (by decide) (fun K hK => ?_)
   refine goes_ Tryd.func16 (by kernel_rfl) rfl #[.slice Ap1 a1.f1.length cp1] (by rfl) rfl rfl (by simp only [List.map_toArray, List.map_cons, List.map_nil]; rfl) ?_; refine (impl_PathText.calls ht111001.out (HS.ro gp1) lp1 (HS.keepc hgM)).mono ?_; rintro _ wt111001 ⟨rfl, HQ⟩; refine ⟨_, rfl, ?_⟩; replace HS := HS.call HQ; clear HQ; (try clear F)
   (try simp only [hpn, hpm] at HS)
   have F := HS.boxes; simp only [boxFacts, and_true] at F
   refine hK.out _ _ ⟨_, HS⟩ (fun HH => ?_)
   clear hK K
   refine norm_ (a' := ?_) ?_ ?_
   rotate_left
   · show Act.put _ (some 16) _ = _; simp only [Act.put, List.setIfInBounds_toArray, List.set_cons_zero, List.set_cons_succ, i64_w, i32_w]; rfl
   refine drq_of [(12, some 17), (13, some 18), (14, some 4)] ?_
   repeat (first | (refine drq_pure HT (v := ?_) (a' := ?_) rfl rfl (by kernel_rfl) (fun _ _ _ h => h) (.inl ⟨by rfl, ?_⟩) ?_ ?_; rotate_left; (intro w'; go_simp; with_reducible rfl); rotate_left; (simp only [Act.put, List.setIfInBounds_toArray, List.set_cons_zero, List.set_cons_succ, i64_w, i32_w]; rfl)))
   refine drq_end ?_
   refine done_ (done_of HT.out (by kernel_rfl)) ?_
   (try clear F)
   have F := HS.boxes; simp only [boxFacts, and_true] at F
   obtain rfl := zsome H
   go_wp2
   go_ret
   exact ⟨rfl, HS.pick [] (by decide) (by rfl)⟩
 · replace H := zneg c105001 H
   have c105001a := beq_eq_false_iff_ne.mpr c105001
   have c105001b := bne_iff_ne.mpr c105001
   clear c105001
   refine dr_start [] HS #[false, false, false, false, false, false, false, false, false, false, false, false, false, false, false] (by kernel_rfl) rfl rfl impl_SameWay.tT1 (fun w8 HT HS HH => ?_)
   (try clear F)
   refine drq_of [(0, some 5), (1, some 6), (2, some 7), (3, some 8), (4, some 9), (5, some 10), (6, some 11), (7, some 12), (8, some 13), (9, some 14), (10, some 15), (11, some 16), (12, some 17), (13, some 18), (14, some 4)] ?_
   repeat (first | (refine drq_pure HT (v := ?_) (a' := ?_) rfl rfl (by kernel_rfl) (fun _ _ _ h => h) (.inl ⟨by rfl, ?_⟩) ?_ ?_; rotate_left; (intro w'; go_simp; with_reducible rfl); rotate_left; (simp only [Act.put, List.setIfInBounds_toArray, List.set_cons_zero, List.set_cons_succ, i64_w, i32_w]; rfl)) | (refine drq_pure HT (v := undef) (a' := ?_) rfl rfl (by kernel_rfl) (fun _ _ _ h => h) (.inr ⟨by rfl, rfl⟩) ?_ ?_; rotate_left; (simp only [Act.put, List.setIfInBounds_toArray, List.set_cons_zero, List.set_cons_succ, i64_w, i32_w]; rfl)) | (refine drq_take HT HH (v := ?_) (a' := ?_) rfl rfl (by kernel_rfl) (fun _ _ _ h => h) (.inl ⟨by rfl, ?_⟩) ?_ ?_; rotate_left; (rintro w' ⟨rs', HS'⟩; have F := HS'.boxes; simp only [boxFacts, List.cons_append, List.nil_append, and_true] at F; go_simp; with_reducible rfl); rotate_left; (simp only [Act.put, List.setIfInBounds_toArray, List.set_cons_zero, List.set_cons_succ, i64_w, i32_w]; rfl)))
   refine drq_end ?_
   refine done_ (done_of HT.out (by kernel_rfl)) ?_
   (try clear F)
   have F := HS.boxes; simp only [boxFacts, and_true] at F
   obtain rfl := zsome H
   go_wp2
   go_ret
   exact ⟨rfl, HS.pick [] (by decide) (by rfl)⟩
/-! ### laws_eqCertS: function 17 -/
def laws_eqCertS.l0 : Nat → Int → (List S29) → (List S29) → Option (Bool)
  | 0, _, _, _ => none
  | k + 1, x5, a0, a1 => (if x5 < (a0.length : Int) then (if 0 ≤ x5 then (if x5 < (a0.length : Int) then (if x5 < (a1.length : Int) then ((laws_eqCert.f k (rd_T29 a0 x5) (rd_T29 a1 x5)).bind fun t108001 => (if t108001 = true then (laws_eqCertS.l0 k (wrap64 (x5 + 1)) a0 a1) else (some false))) else none) else none) else none) else (some true))
def laws_eqCertS.f (k : Nat) (a0 : (List S29)) (a1 : (List S29)) : Option (Bool) := (if (a0.length : Int) = (a1.length : Int) then (laws_eqCertS.l0 k 0 a0 a1) else (some false))
def laws_eqCertS.T6 : Bool × List (List Nat × List Nat) := (true, [([], []), ([], []), ([0, 1], [0, 1]), ([2], [2]), ([], []), ([], []), ([4, 5], [4, 5]), ([6], [6]), ([3, 7], [3, 7]), ([8], [8])])
theorem laws_eqCertS.tT6 : rtab .any (opsOf Tryd.f17 6) = laws_eqCertS.T6 := by kernel_rfl
set_option maxHeartbeats 16000000 in
theorem laws_eqCertS.calls {k : Nat} {a0 : (List S29)} {a1 : (List S29)} {Ap0 : Option Addr} {np0 cp0 : Nat} {Ap1 : Option Addr} {np1 cp1 : Nat} {r : Bool} {w : World} (h : laws_eqCertS.f k a0 a1 = some r) (gp0 : k29.C w Ap0 np0 a0) (lp0 : np0 ≤ cp0) (gp1 : k29.C w Ap1 np1 a1) (lp1 : np1 ≤ cp1) :
    Calls Tryd.prog 17 #[.slice Ap0 np0 cp0, .slice Ap1 np1 cp1] w (fun e w' => e = .returned (.bool r) ∧ Hp noFP w w' []) := by
 obtain rfl := C_len gp0
 obtain rfl := C_len gp1
 have HS := Hp.start w
 have H := Aside0.mk h
 clear h
 unfold laws_eqCertS.f at H
 go_enter Tryd.func17, Tryd.ntmps17
 by_cases c1 : (a0.length : Int) = (a1.length : Int)
 · replace H := zpos c1 H
   have c1a := beq_iff_eq.mpr c1
   have c1b := bne_eq_false_iff_eq.mpr c1
   clear c1
   go_wp2
   go_loopg [5] k (fun kq v_5 w' => ∃ (x5 : Int), v_5 = .int .i64 x5 ∧ Aside0 (laws_eqCertS.l0 kq x5 a0 a1 = some r) ∧ Aside0 (kq ≤ k) ∧ Hp noFP w w' [])
   case atStart => exact ⟨_, rfl, H, ⟨Nat.le_refl _⟩, HS⟩
   case round =>
    clear HS H; (try clear F)
    obtain ⟨x5, rfl, H, HKk4, HS⟩ := hrel
    cases gk with
    | zero => exact absurd H.out (by simp [laws_eqCertS.l0])
    | succ k4 =>
     simp only [laws_eqCertS.l0] at H
     by_cases c7 : x5 < (a0.length : Int)
     · replace H := zpos c7 H
       replace c7 := eq_true c7
       (try go_wp2)
       by_cases c102001 : 0 ≤ x5
       case neg => exact zno c102001 H
       replace H := zpos c102001 H
       replace c102001 := eq_true c102001
       by_cases c102002 : x5 < (a0.length : Int)
       case neg => exact zno c102002 H
       replace H := zpos c102002 H
       replace c102002 := eq_true c102002
       obtain ⟨ad102999, B102999_9, d102999_9, B102999_10, d102999_10, B102999_11, d102999_11, rfl, e102999_0, e102999_1, e102999_2, e102999_3, e102999_4, e102999_5, e102999_6, e102999_7, e102999_8, e102999_9, e102999_10, e102999_11, e102999_12, m102999_9, y102999_9, m102999_10, y102999_10, m102999_11, y102999_11⟩ := at_T29 gp0 x5 (of_eq_true c102001) (of_eq_true c102002)
       by_cases c106001 : x5 < (a1.length : Int)
       case neg => exact zno c106001 H
       replace H := zpos c106001 H
       replace c106001 := eq_true c106001
       obtain ⟨ad106999, B106999_9, d106999_9, B106999_10, d106999_10, B106999_11, d106999_11, rfl, e106999_0, e106999_1, e106999_2, e106999_3, e106999_4, e106999_5, e106999_6, e106999_7, e106999_8, e106999_9, e106999_10, e106999_11, e106999_12, m106999_9, y106999_9, m106999_10, y106999_10, m106999_11, y106999_11⟩ := at_T29 gp1 x5 (of_eq_true c102001) (of_eq_true c106001)
       replace H := zbind H; obtain ⟨t108001, ht108001, H⟩ := H
       refine dr_start [] HS #[false, false, false, false, false, false, false, false, false, false] (by kernel_rfl) rfl rfl laws_eqCertS.tT6 (fun w9 HT HS HH => ?_)
       (try clear F)
       refine drq_of [(0, some 17), (1, some 18), (2, some 19)] ?_
       repeat (first | (refine drq_pure HT (v := ?_) (a' := ?_) rfl rfl (by kernel_rfl) (fun _ _ _ h => h) (.inl ⟨by rfl, ?_⟩) ?_ ?_; rotate_left; (intro w'; go_simp; with_reducible rfl); rotate_left; (simp only [Act.put, List.setIfInBounds_toArray, List.set_cons_zero, List.set_cons_succ, i64_w, i32_w]; rfl)))
       refine drq_end ?_
       refine dr_take 3 (some 20) HT HH (v := ?_) (a' := ?_) rfl rfl (by kernel_rfl) (fun _ _ _ h => h) (.inl ⟨by rfl, ?_⟩) ?_ ?_
       rotate_left
       · rintro w' ⟨rs', HS'⟩; have e102999_0 := (HS'.keepc e102999_0); have e102999_1 := (HS'.keepc e102999_1); have e102999_2 := (HS'.keepc e102999_2); have e102999_3 := (HS'.keepc e102999_3); have e102999_4 := (HS'.keepc e102999_4); have e102999_5 := (HS'.keepc e102999_5); have e102999_6 := (HS'.keepc e102999_6); have e102999_7 := (HS'.keepc e102999_7); have e102999_8 := (HS'.keepc e102999_8); have e102999_9 := (HS'.keepc e102999_9); have e102999_10 := (HS'.keepc e102999_10); have e102999_11 := (HS'.keepc e102999_11); have e102999_12 := (HS'.keepc e102999_12); go_simp; with_reducible rfl
       rotate_left
       · simp only [Act.put, List.setIfInBounds_toArray, List.set_cons_zero, List.set_cons_succ, i64_w, i32_w]; rfl
       refine drq_of [(4, some 21), (5, some 22), (6, some 23)] ?_
       repeat (first | (refine drq_pure HT (v := ?_) (a' := ?_) rfl rfl (by kernel_rfl) (fun _ _ _ h => h) (.inl ⟨by rfl, ?_⟩) ?_ ?_; rotate_left; (intro w'; go_simp; with_reducible rfl); rotate_left; (simp only [Act.put, List.setIfInBounds_toArray, List.set_cons_zero, List.set_cons_succ, i64_w, i32_w]; rfl)))
       refine drq_end ?_
       refine dr_take 7 (some 24) HT HH (v := ?_) (a' := ?_) rfl rfl (by kernel_rfl) (fun _ _ _ h => h) (.inl ⟨by rfl, ?_⟩) ?_ ?_
       rotate_left
       · rintro w' ⟨rs', HS'⟩; have e106999_0 := (HS'.keepc e106999_0); have e106999_1 := (HS'.keepc e106999_1); have e106999_2 := (HS'.keepc e106999_2); have e106999_3 := (HS'.keepc e106999_3); have e106999_4 := (HS'.keepc e106999_4); have e106999_5 := (HS'.keepc e106999_5); have e106999_6 := (HS'.keepc e106999_6); have e106999_7 := (HS'.keepc e106999_7); have e106999_8 := (HS'.keepc e106999_8); have e106999_9 := (HS'.keepc e106999_9); have e106999_10 := (HS'.keepc e106999_10); have e106999_11 := (HS'.keepc e106999_11); have e106999_12 := (HS'.keepc e106999_12); go_simp; with_reducible rfl
       rotate_left
       · simp only [Act.put, List.setIfInBounds_toArray, List.set_cons_zero, List.set_cons_succ, i64_w, i32_w]; rfl
       refine dr_one 8 HT rfl (by kernel_rfl) (by decide) (fun K hK => ?_)
       refine goes_ Tryd.func12 (by kernel_rfl) rfl #[.agg #[.int .i64 ((rd_T29 a0 x5).f0), .string ((rd_T29 a0 x5).f1), .string ((rd_T29 a0 x5).f2), .int .i64 ((rd_T29 a0 x5).f3), .int .i64 ((rd_T29 a0 x5).f4), .string ((rd_T29 a0 x5).f5), .bool ((rd_T29 a0 x5).f6), .int .i64 ((rd_T29 a0 x5).f7), .int .i64 ((rd_T29 a0 x5).f8), .slice B102999_9 (rd_T29 a0 x5).f9.length d102999_9, .slice B102999_10 (rd_T29 a0 x5).f10.length d102999_10, .slice B102999_11 (rd_T29 a0 x5).f11.length d102999_11, .string ((rd_T29 a0 x5).f12)], .agg #[.int .i64 ((rd_T29 a1 x5).f0), .string ((rd_T29 a1 x5).f1), .string ((rd_T29 a1 x5).f2), .int .i64 ((rd_T29 a1 x5).f3), .int .i64 ((rd_T29 a1 x5).f4), .string ((rd_T29 a1 x5).f5), .bool ((rd_T29 a1 x5).f6), .int .i64 ((rd_T29 a1 x5).f7), .int .i64 ((rd_T29 a1 x5).f8), .slice B106999_9 (rd_T29 a1 x5).f9.length d106999_9, .slice B106999_10 (rd_T29 a1 x5).f10.length d106999_10, .slice B106999_11 (rd_T29 a1 x5).f11.length d106999_11, .string ((rd_T29 a1 x5).f12)]] (by rfl) rfl rfl (by simp only [List.map_toArray, List.map_cons, List.map_nil]; rfl) ?_; refine (laws_eqCert.calls ht108001.out (HS.ro y102999_9) m102999_9 (HS.ro y102999_10) m102999_10 (HS.ro y102999_11) m102999_11 (HS.ro y106999_9) m106999_9 (HS.ro y106999_10) m106999_10 (HS.ro y106999_11) m106999_11).mono ?_; rintro _ wt108001 ⟨rfl, HQ⟩; refine ⟨_, rfl, ?_⟩; replace HS := HS.call HQ; clear HQ; (try clear F)
       (try simp only [hpn, hpm] at HS)
       refine hK.out _ _ ⟨_, HS⟩ (fun HH => ?_)
       clear hK K
       refine norm_ (a' := ?_) ?_ ?_
       rotate_left
       · show Act.put _ (some 25) _ = _; simp only [Act.put, List.setIfInBounds_toArray, List.set_cons_zero, List.set_cons_succ, i64_w, i32_w]; rfl
       refine drq_of [(9, some 26)] ?_
       repeat (first | (refine drq_pure HT (v := ?_) (a' := ?_) rfl rfl (by kernel_rfl) (fun _ _ _ h => h) (.inl ⟨by rfl, ?_⟩) ?_ ?_; rotate_left; (intro w'; go_simp; with_reducible rfl); rotate_left; (simp only [Act.put, List.setIfInBounds_toArray, List.set_cons_zero, List.set_cons_succ, i64_w, i32_w]; rfl)))
       refine drq_end ?_
       refine done_ (done_of HT.out (by kernel_rfl)) ?_
       by_cases c11 : t108001 = true
       · replace H := zpos c11 H
         subst c11
         (try simp only [dcn, if_true, Bool.false_eq_true, if_false])
         go_wp2
         go_roundg k4
         case measure => have := HKk4.out; omega
         case rel => exact ⟨_, rfl, H, ⟨by have := HKk4.out; omega⟩, HS.pick [] (by decide) (by rfl)⟩
       · replace H := zneg c11 H
         replace c11 := eq_false_of_ne_true c11
         subst c11
         (try simp only [dcn, if_true, Bool.false_eq_true, if_false])
         obtain rfl := zsome H
         go_wp2
         go_ret
         exact ⟨rfl, HS.pick [] (by decide) (by rfl)⟩
     · replace H := zneg c7 H
       replace c7 := eq_false c7
       obtain rfl := zsome H
       go_wp2
       go_ret
       exact ⟨rfl, HS.pick [] (by decide) (by rfl)⟩
 · replace H := zneg c1 H
   have c1a := beq_eq_false_iff_ne.mpr c1
   have c1b := bne_iff_ne.mpr c1
   clear c1
   obtain rfl := zsome H
   go_wp2
   go_ret
   exact ⟨rfl, HS.pick [] (by decide) (by rfl)⟩
/-! ### laws_eqWay: function 22 -/
def laws_eqWay.f (k : Nat) (a0 : S45) (a1 : S45) : Option (Bool) := (if a0.f0 = a1.f0 then ((laws_eqCertS.f k a0.f1 a1.f1).bind fun t6 => (if t6 = true then (some true) else (some false))) else (some false))
set_option maxHeartbeats 16000000 in
theorem laws_eqWay.calls {k : Nat} {a0 : S45} {a1 : S45} {Ap0 : Option Addr} {np0 cp0 : Nat} {Ap1 : Option Addr} {np1 cp1 : Nat} {r : Bool} {w : World} (h : laws_eqWay.f k a0 a1 = some r) (gp0 : k29.C w Ap0 np0 a0.f1) (lp0 : np0 ≤ cp0) (gp1 : k29.C w Ap1 np1 a1.f1) (lp1 : np1 ≤ cp1) :
    Calls Tryd.prog 22 #[.agg #[.int .i64 a0.f0, .slice Ap0 np0 cp0], .agg #[.int .i64 a1.f0, .slice Ap1 np1 cp1]] w (fun e w' => e = .returned (.bool r) ∧ Hp noFP w w' []) := by
 obtain rfl := C_len gp0
 obtain rfl := C_len gp1
 have HS := Hp.start w
 have H := Aside0.mk h
 clear h
 unfold laws_eqWay.f at H
 go_enter Tryd.func22, Tryd.ntmps22
 go_upto_if 9 with (first | ((with_reducible refine gate_dst (N := 2) rfl ?_); refine ev_box rfl HS (by first | (go_simp; done) | (go_simp; rfl)) rfl ?_; clear HS; (try clear F); intro g2 w2 HS; (try simp only [hpn, hpm] at HS); have F := HS.boxes; simp only [boxFacts, and_true] at F) | ((with_reducible refine gate_dst (N := 3) rfl ?_); refine ev_box rfl HS (by first | (go_simp; done) | (go_simp; rfl)) rfl ?_; clear HS; (try clear F); intro g3 w3 HS; (try simp only [hpn, hpm] at HS); have F := HS.boxes; simp only [boxFacts, and_true] at F))
 by_cases c5 : a0.f0 = a1.f0
 · replace H := zpos c5 H
   have c5a := beq_iff_eq.mpr c5
   have c5b := bne_eq_false_iff_eq.mpr c5
   clear c5
   (try simp only [c5a, c5b, dcn])
   replace H := zbind H; obtain ⟨t6, ht6, H⟩ := H
   go_upto_if 15 with (first | ((with_reducible refine gate_dst (N := 14) rfl ?_); refine ev_call rfl Tryd.func17 (by kernel_rfl) rfl #[.slice Ap0 a0.f1.length cp0, .slice Ap1 a1.f1.length cp1] rfl (by simp only [List.map_toArray, List.map_cons, List.map_nil]; rfl) ?_; refine (laws_eqCertS.calls ht6.out (HS.ro gp0) lp0 (HS.ro gp1) lp1).mono ?_; rintro _ wt6 ⟨rfl, HQ⟩; refine ⟨_, rfl, ?_⟩; replace HS := HS.call HQ; clear HQ; (try clear F); (try simp only [hpn, hpm] at HS); have F := HS.boxes; simp only [boxFacts, and_true] at F))
   by_cases c8 : t6 = true
   · replace H := zpos c8 H
     subst c8
     (try simp only [dcn, if_true, Bool.false_eq_true, if_false])
     obtain rfl := zsome H
     go_wp2
     go_ret
     exact ⟨rfl, HS.pick [] (by decide) (by rfl)⟩
   · replace H := zneg c8 H
     replace c8 := eq_false_of_ne_true c8
     subst c8
     (try simp only [dcn, if_true, Bool.false_eq_true, if_false])
     obtain rfl := zsome H
     go_wp2
     go_ret
     exact ⟨rfl, HS.pick [] (by decide) (by rfl)⟩
 · replace H := zneg c5 H
   have c5a := beq_eq_false_iff_ne.mpr c5
   have c5b := bne_iff_ne.mpr c5
   clear c5
   (try simp only [c5a, c5b, dcn])
   obtain rfl := zsome H
   go_wp2
   go_ret
   exact ⟨rfl, HS.pick [] (by decide) (by rfl)⟩
end Go.Proofs.YtoaoncnbimcdgaaDoor.F
