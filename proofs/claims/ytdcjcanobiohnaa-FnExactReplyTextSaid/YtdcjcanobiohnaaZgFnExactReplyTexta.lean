/- Functions of the program and of the law, and that their calls do what is written here. -/
import Derived.Test.YtdcjcanobiohnaaZT
namespace Go.Proofs.Ytdcjcanobiohnaa.F
open Go.RowKit Go.Proofs.YtdcjcanobiohnaaW.PrintWords Go.Proofs.YtdcjcanobiohnaaW.PrintLast Go.Proofs.YtdcjcanobiohnaaW.PrintMore Go.Proofs.Ytdcjcanobiohnaa.Z
attribute [local go_sem] max2_int min2_int max_two min_two max_three min_three max_four min_four
set_option linter.unusedVariables false
set_option linter.unusedSimpArgs false
set_option maxRecDepth 100000
/-! ### laws_szStringS: function 110 -/
def laws_szStringS.l0 : Nat → Int → Int → (List ByteArray) → Option (Int)
  | 0, _, _, _ => none
  | k + 1, x9, x10, a0 => (if x10 < (a0.length : Int) then (if 0 ≤ x10 then (if x10 < (a0.length : Int) then (if (wrap64 (x9 - ((rdOf ByteArray.empty a0 x10).size : Int))) < 0 then (some (-1)) else (laws_szStringS.l0 k (wrap64 (x9 - ((rdOf ByteArray.empty a0 x10).size : Int))) (wrap64 (x10 + 1)) a0)) else none) else none) else (some x9))
def laws_szStringS.f (k : Nat) (a0 : (List ByteArray)) (a1 : Int) : Option (Int) := (if (wrap64 (a1 - (a0.length : Int))) < 0 then (some (-1)) else (laws_szStringS.l0 k (wrap64 (a1 - (a0.length : Int))) 0 a0))
set_option maxHeartbeats 16000000 in
theorem laws_szStringS.calls {k : Nat} {a0 : (List ByteArray)} {a1 : Int} {Ap0 : Option Addr} {np0 cp0 : Nat} {r : Int} {w : World} (h : laws_szStringS.f k a0 a1 = some r) (gp0 : Kd.string.C w Ap0 np0 a0) (lp0 : np0 ≤ cp0) :
    Calls Try.prog 110 #[.slice Ap0 np0 cp0, .int .i64 a1] w (fun e w' => e = .returned (.int .i64 r) ∧ Hp noFP w w' []) := by
 obtain rfl := C_len gp0
 have HS := Hp.start w
 have H := Aside0.mk h
 clear h
 unfold laws_szStringS.f at H
 go_enter Try.func110, Try.ntmps110
 by_cases c1 : (wrap64 (a1 - (a0.length : Int))) < 0
 · replace H := zpos c1 H
   replace c1 := eq_true c1
   obtain rfl := zsome H
   go_wp2
   go_ret
   exact ⟨rfl, HS.pick [] (by decide) (by rfl)⟩
 · replace H := zneg c1 H
   replace c1 := eq_false c1
   go_wp2
   go_loopg [1, 5] k (fun kq v_1 v_5 w' => ∃ (x9 : Int) (x10 : Int), v_1 = .int .i64 x9 ∧ v_5 = .int .i64 x10 ∧ Aside0 (laws_szStringS.l0 kq x9 x10 a0 = some r) ∧ Aside0 (kq ≤ k) ∧ Hp noFP w w' [])
   case atStart => exact ⟨_, _, rfl, rfl, H, ⟨Nat.le_refl _⟩, HS⟩
   case round =>
    clear HS H; (try clear F)
    obtain ⟨x9, x10, rfl, rfl, H, HKk8, HS⟩ := hrel
    cases gk with
    | zero => exact absurd H.out (by simp [laws_szStringS.l0])
    | succ k8 =>
     simp only [laws_szStringS.l0] at H
     by_cases c12 : x10 < (a0.length : Int)
     · replace H := zpos c12 H
       replace c12 := eq_true c12
       by_cases c13 : 0 ≤ x10
       case neg => exact zno c13 H
       replace H := zpos c13 H
       replace c13 := eq_true c13
       by_cases c14 : x10 < (a0.length : Int)
       case neg => exact zno c14 H
       replace H := zpos c14 H
       replace c14 := eq_true c14
       obtain ⟨ad15, rfl, e15_0⟩ := Kd.at_string gp0 x10 (of_eq_true c13) (of_eq_true c14)
       have e15_0_15 := HS.keepc e15_0
       by_cases c16 : (wrap64 (x9 - ((rdOf ByteArray.empty a0 x10).size : Int))) < 0
       · replace H := zpos c16 H
         replace c16 := eq_true c16
         obtain rfl := zsome H
         go_wp2
         go_ret
         exact ⟨rfl, HS.pick [] (by decide) (by rfl)⟩
       · replace H := zneg c16 H
         replace c16 := eq_false c16
         go_wp2
         go_roundg k8
         case measure => have := HKk8.out; omega
         case rel => exact ⟨_, _, rfl, rfl, H, ⟨by have := HKk8.out; omega⟩, HS.pick [] (by decide) (by rfl)⟩
     · replace H := zneg c12 H
       replace c12 := eq_false c12
       obtain rfl := zsome H
       go_wp2
       go_ret
       exact ⟨rfl, HS.pick [] (by decide) (by rfl)⟩
/-! ### laws_szAnswer: function 118 -/
def laws_szAnswer.f (k : Nat) (a0 : S169) (a1 : Int) : Option (Int) := ((laws_szStringS.f k a0.f2 a1).bind fun t3 => (if t3 < 0 then (some (-1)) else ((laws_szStringS.f k a0.f3 t3).bind fun t6 => (if t6 < 0 then (some (-1)) else (some t6)))))
set_option maxHeartbeats 16000000 in
theorem laws_szAnswer.calls {k : Nat} {a0 : S169} {a1 : Int} {Ap0 : Option Addr} {np0 cp0 : Nat} {Ap1 : Option Addr} {np1 cp1 : Nat} {r : Int} {w : World} (h : laws_szAnswer.f k a0 a1 = some r) (gp0 : Kd.string.C w Ap0 np0 a0.f2) (lp0 : np0 ≤ cp0) (gp1 : Kd.string.C w Ap1 np1 a0.f3) (lp1 : np1 ≤ cp1) :
    Calls Try.prog 118 #[.agg #[.int .i64 a0.f0, .int .i64 a0.f1, .slice Ap0 np0 cp0, .slice Ap1 np1 cp1], .int .i64 a1] w (fun e w' => e = .returned (.int .i64 r) ∧ Hp noFP w w' []) := by
 obtain rfl := C_len gp0
 obtain rfl := C_len gp1
 have HS := Hp.start w
 have H := Aside0.mk h
 clear h
 unfold laws_szAnswer.f at H
 go_enter Try.func118, Try.ntmps118
 obtain ⟨t3, ht3, H⟩ := zbind H
 go_upto_if 10 with (first | ((with_reducible refine gate_dst (N := 2) rfl ?_); refine ev_box rfl HS (by first | (go_simp; done) | (go_simp; rfl)) rfl ?_; clear HS; (try clear F); intro g2 w2 HS; replace HS : Hp noFP w _ [.box g2 [.int .i64 a0.f0, .int .i64 a0.f1, .slice Ap0 a0.f2.length cp0, .slice Ap1 a0.f3.length cp1] 169] := HS; have F := HS.boxes; simp only [boxFacts, and_true] at F) | ((with_reducible refine gate_dst (N := 8) rfl ?_); refine ev_call rfl Try.func110 (by kernel_rfl) rfl #[.slice Ap0 a0.f2.length cp0, .int .i64 a1] rfl (by simp only [List.map_toArray, List.map_cons, List.map_nil]; rfl) ?_; refine (laws_szStringS.calls ht3.out (HS.ro gp0) lp0).mono ?_; rintro _ wt3 ⟨rfl, HQ⟩; refine ⟨_, rfl, ?_⟩; replace HS := HS.call HQ; clear HQ; (try clear F); replace HS : Hp noFP w _ [.box g2 [.int .i64 a0.f0, .int .i64 a0.f1, .slice Ap0 a0.f2.length cp0, .slice Ap1 a0.f3.length cp1] 169] := HS; have F := HS.boxes; simp only [boxFacts, and_true] at F))
 by_cases c5 : t3 < 0
 · replace H := zpos c5 H
   replace c5 := eq_true c5
   (try simp only [c5, decide_true, decide_false, Bool.not_true, Bool.not_false])
   obtain rfl := zsome H
   go_wp2
   go_ret
   exact ⟨rfl, HS.pick [] (by decide) (by rfl)⟩
 · replace H := zneg c5 H
   replace c5 := eq_false c5
   (try simp only [c5, decide_true, decide_false, Bool.not_true, Bool.not_false])
   obtain ⟨t6, ht6, H⟩ := zbind H
   go_upto_if 16 with (first | ((with_reducible refine gate_dst (N := 14) rfl ?_); refine ev_call rfl Try.func110 (by kernel_rfl) rfl #[.slice Ap1 a0.f3.length cp1, .int .i64 t3] rfl (by simp only [List.map_toArray, List.map_cons, List.map_nil]; rfl) ?_; refine (laws_szStringS.calls ht6.out (HS.ro gp1) lp1).mono ?_; rintro _ wt6 ⟨rfl, HQ⟩; refine ⟨_, rfl, ?_⟩; replace HS := HS.call HQ; clear HQ; (try clear F); replace HS : Hp noFP w _ [.box g2 [.int .i64 a0.f0, .int .i64 a0.f1, .slice Ap0 a0.f2.length cp0, .slice Ap1 a0.f3.length cp1] 169] := HS; have F := HS.boxes; simp only [boxFacts, and_true] at F))
   by_cases c8 : t6 < 0
   · replace H := zpos c8 H
     replace c8 := eq_true c8
     (try simp only [c8, decide_true, decide_false, Bool.not_true, Bool.not_false])
     obtain rfl := zsome H
     go_wp2
     go_ret
     exact ⟨rfl, HS.pick [] (by decide) (by rfl)⟩
   · replace H := zneg c8 H
     replace c8 := eq_false c8
     (try simp only [c8, decide_true, decide_false, Bool.not_true, Bool.not_false])
     obtain rfl := zsome H
     go_wp2
     go_ret
     exact ⟨rfl, HS.pick [] (by decide) (by rfl)⟩
/-! ### laws_szAnswerS: function 63 -/
def laws_szAnswerS.l0 : Nat → Int → Int → (List S169) → Option (Int)
  | 0, _, _, _ => none
  | k + 1, x12, x13, a0 => (if x13 < (a0.length : Int) then (if 0 ≤ x13 then (if x13 < (a0.length : Int) then ((laws_szAnswer.f k (rd_T169 a0 x13) x12).bind fun t19 => (if t19 < 0 then (some (-1)) else (laws_szAnswerS.l0 k t19 (wrap64 (x13 + 1)) a0))) else none) else none) else (some x12))
def laws_szAnswerS.f (k : Nat) (a0 : (List S169)) (a1 : Int) : Option (Int) := (if (wrap64 (a1 - (a0.length : Int))) < 0 then (some (-1)) else (laws_szAnswerS.l0 k (wrap64 (a1 - (a0.length : Int))) 0 a0))
set_option maxHeartbeats 16000000 in
theorem laws_szAnswerS.calls {k : Nat} {a0 : (List S169)} {a1 : Int} {Ap0 : Option Addr} {np0 cp0 : Nat} {r : Int} {w : World} (h : laws_szAnswerS.f k a0 a1 = some r) (gp0 : k169.C w Ap0 np0 a0) (lp0 : np0 ≤ cp0) :
    Calls Try.prog 63 #[.slice Ap0 np0 cp0, .int .i64 a1] w (fun e w' => e = .returned (.int .i64 r) ∧ Hp noFP w w' []) := by
 obtain rfl := C_len gp0
 have HS := Hp.start w
 have H := Aside0.mk h
 clear h
 unfold laws_szAnswerS.f at H
 go_enter Try.func63, Try.ntmps63
 by_cases c1 : (wrap64 (a1 - (a0.length : Int))) < 0
 · replace H := zpos c1 H
   replace c1 := eq_true c1
   obtain rfl := zsome H
   go_wp2
   go_ret
   exact ⟨rfl, HS.pick [] (by decide) (by rfl)⟩
 · replace H := zneg c1 H
   replace c1 := eq_false c1
   go_wp2
   go_loopg [1, 5] k (fun kq v_1 v_5 w' => ∃ (x12 : Int) (x13 : Int), v_1 = .int .i64 x12 ∧ v_5 = .int .i64 x13 ∧ Aside0 (laws_szAnswerS.l0 kq x12 x13 a0 = some r) ∧ Aside0 (kq ≤ k) ∧ Hp noFP w w' [])
   case atStart => exact ⟨_, _, rfl, rfl, H, ⟨Nat.le_refl _⟩, HS⟩
   case round =>
    clear HS H; (try clear F)
    obtain ⟨x12, x13, rfl, rfl, H, HKk11, HS⟩ := hrel
    cases gk with
    | zero => exact absurd H.out (by simp [laws_szAnswerS.l0])
    | succ k11 =>
     simp only [laws_szAnswerS.l0] at H
     by_cases c15 : x13 < (a0.length : Int)
     · replace H := zpos c15 H
       replace c15 := eq_true c15
       by_cases c16 : 0 ≤ x13
       case neg => exact zno c16 H
       replace H := zpos c16 H
       replace c16 := eq_true c16
       by_cases c17 : x13 < (a0.length : Int)
       case neg => exact zno c17 H
       replace H := zpos c17 H
       replace c17 := eq_true c17
       obtain ⟨ad18, B18_2, d18_2, B18_3, d18_3, rfl, e18_0, e18_1, e18_2, e18_3, m18_2, y18_2, m18_3, y18_3⟩ := at_T169 gp0 x13 (of_eq_true c16) (of_eq_true c17)
       have e18_0_18 := HS.keepc e18_0
       have e18_1_18 := HS.keepc e18_1
       have e18_2_18 := HS.keepc e18_2
       have e18_3_18 := HS.keepc e18_3
       obtain ⟨t19, ht19, H⟩ := zbind H
       go_upto_if 25 with (first | ((with_reducible refine gate_dst (N := 23) rfl ?_); refine ev_call rfl Try.func118 (by kernel_rfl) rfl #[.agg #[.int .i64 ((rd_T169 a0 x13).f0), .int .i64 ((rd_T169 a0 x13).f1), .slice B18_2 (rd_T169 a0 x13).f2.length d18_2, .slice B18_3 (rd_T169 a0 x13).f3.length d18_3], .int .i64 x12] rfl (by simp only [List.map_toArray, List.map_cons, List.map_nil]; rfl) ?_; refine (laws_szAnswer.calls ht19.out (HS.ro y18_2) m18_2 (HS.ro y18_3) m18_3).mono ?_; rintro _ wt19 ⟨rfl, HQ⟩; refine ⟨_, rfl, ?_⟩; replace HS := HS.call HQ; clear HQ; (try clear F); replace HS : Hp noFP w _ [] := HS))
       by_cases c21 : t19 < 0
       · replace H := zpos c21 H
         replace c21 := eq_true c21
         (try simp only [c21, decide_true, decide_false, Bool.not_true, Bool.not_false])
         obtain rfl := zsome H
         go_wp2
         go_ret
         exact ⟨rfl, HS.pick [] (by decide) (by rfl)⟩
       · replace H := zneg c21 H
         replace c21 := eq_false c21
         (try simp only [c21, decide_true, decide_false, Bool.not_true, Bool.not_false])
         go_wp2
         go_roundg k11
         case measure => have := HKk11.out; omega
         case rel => exact ⟨_, _, rfl, rfl, H, ⟨by have := HKk11.out; omega⟩, HS.pick [] (by decide) (by rfl)⟩
     · replace H := zneg c15 H
       replace c15 := eq_false c15
       obtain rfl := zsome H
       go_wp2
       go_ret
       exact ⟨rfl, HS.pick [] (by decide) (by rfl)⟩
/-! ### laws_szReply: function 24 -/
def laws_szReply.f (k : Nat) (a0 : S44) (a1 : Int) : Option (Int) := (if (wrap64 (a1 - (a0.f0.size : Int))) < 0 then (some (-1)) else ((laws_szAnswerS.f k a0.f6 (wrap64 (a1 - (a0.f0.size : Int)))).bind fun t4 => (if t4 < 0 then (some (-1)) else (if (wrap64 (t4 - (a0.f7.size : Int))) < 0 then (some (-1)) else (some (wrap64 (t4 - (a0.f7.size : Int))))))))
set_option maxHeartbeats 16000000 in
theorem laws_szReply.calls {k : Nat} {a0 : S44} {a1 : Int} {Ap0 : Option Addr} {np0 cp0 : Nat} {r : Int} {w : World} (h : laws_szReply.f k a0 a1 = some r) (gp0 : k169.C w Ap0 np0 a0.f6) (lp0 : np0 ≤ cp0) :
    Calls Try.prog 24 #[.agg #[.string a0.f0, .int .i64 a0.f1, .int .i64 a0.f2, .int .i64 a0.f3, .int .i64 a0.f4, .int .i64 a0.f5, .slice Ap0 np0 cp0, .string a0.f7], .int .i64 a1] w (fun e w' => e = .returned (.int .i64 r) ∧ Hp noFP w w' []) := by
 obtain rfl := C_len gp0
 have HS := Hp.start w
 have H := Aside0.mk h
 clear h
 unfold laws_szReply.f at H
 go_enter Try.func24, Try.ntmps24
 go_upto_if 11 with (first | ((with_reducible refine gate_dst (N := 2) rfl ?_); refine ev_box rfl HS (by first | (go_simp; done) | (go_simp; rfl)) rfl ?_; clear HS; (try clear F); intro g2 w2 HS; replace HS : Hp noFP w _ [.box g2 [.string a0.f0, .int .i64 a0.f1, .int .i64 a0.f2, .int .i64 a0.f3, .int .i64 a0.f4, .int .i64 a0.f5, .slice Ap0 a0.f6.length cp0, .string a0.f7] 44] := HS; have F := HS.boxes; simp only [boxFacts, and_true] at F))
 by_cases c3 : (wrap64 (a1 - (a0.f0.size : Int))) < 0
 · replace H := zpos c3 H
   replace c3 := eq_true c3
   (try simp only [c3, decide_true, decide_false, Bool.not_true, Bool.not_false])
   obtain rfl := zsome H
   go_wp2
   go_ret
   exact ⟨rfl, HS.pick [] (by decide) (by rfl)⟩
 · replace H := zneg c3 H
   replace c3 := eq_false c3
   (try simp only [c3, decide_true, decide_false, Bool.not_true, Bool.not_false])
   obtain ⟨t4, ht4, H⟩ := zbind H
   go_upto_if 17 with (first | ((with_reducible refine gate_dst (N := 15) rfl ?_); refine ev_call rfl Try.func63 (by kernel_rfl) rfl #[.slice Ap0 a0.f6.length cp0, .int .i64 (wrap64 (a1 - (a0.f0.size : Int)))] rfl (by simp only [List.map_toArray, List.map_cons, List.map_nil]; rfl) ?_; refine (laws_szAnswerS.calls ht4.out (HS.ro gp0) lp0).mono ?_; rintro _ wt4 ⟨rfl, HQ⟩; refine ⟨_, rfl, ?_⟩; replace HS := HS.call HQ; clear HQ; (try clear F); replace HS : Hp noFP w _ [.box g2 [.string a0.f0, .int .i64 a0.f1, .int .i64 a0.f2, .int .i64 a0.f3, .int .i64 a0.f4, .int .i64 a0.f5, .slice Ap0 a0.f6.length cp0, .string a0.f7] 44] := HS; have F := HS.boxes; simp only [boxFacts, and_true] at F))
   by_cases c6 : t4 < 0
   · replace H := zpos c6 H
     replace c6 := eq_true c6
     (try simp only [c6, decide_true, decide_false, Bool.not_true, Bool.not_false])
     obtain rfl := zsome H
     go_wp2
     go_ret
     exact ⟨rfl, HS.pick [] (by decide) (by rfl)⟩
   · replace H := zneg c6 H
     replace c6 := eq_false c6
     (try simp only [c6, decide_true, decide_false, Bool.not_true, Bool.not_false])
     by_cases c7 : (wrap64 (t4 - (a0.f7.size : Int))) < 0
     · replace H := zpos c7 H
       replace c7 := eq_true c7
       obtain rfl := zsome H
       go_wp2
       go_ret
       exact ⟨rfl, HS.pick [] (by decide) (by rfl)⟩
     · replace H := zneg c7 H
       replace c7 := eq_false c7
       obtain rfl := zsome H
       go_wp2
       go_ret
       exact ⟨rfl, HS.pick [] (by decide) (by rfl)⟩
/-! ### laws_toStringS: function 112 -/
def laws_toStringS.l0 : Nat → (List ByteArray) → Int → (List ByteArray) → Option ((List ByteArray))
  | 0, _, _, _ => none
  | k + 1, l18, x20, a0 => (if x20 < (a0.length : Int) then (if 0 ≤ x20 then (if x20 < (a0.length : Int) then (laws_toStringS.l0 k (l18.set (x20).toNat (rdOf ByteArray.empty a0 x20)) (wrap64 (x20 + 1)) a0) else none) else none) else (some l18))
def laws_toStringS.f (k : Nat) (a0 : (List ByteArray)) : Option ((List ByteArray)) := (if 0 ≤ (a0.length : Int) then (if ((a0.length : Int)).toNat ≤ 17592186044416 then (laws_toStringS.l0 k (List.replicate a0.length (⟨#[]⟩ : ByteArray)) 0 a0) else none) else none)
set_option maxHeartbeats 16000000 in
theorem laws_toStringS.calls {k : Nat} {a0 : (List ByteArray)} {Ap0 : Option Addr} {np0 cp0 : Nat} {r : (List ByteArray)} {w : World} (h : laws_toStringS.f k a0 = some r) (gp0 : Kd.string.C w Ap0 np0 a0) (lp0 : np0 ≤ cp0) :
    Calls Try.prog 112 #[.slice Ap0 np0 cp0] w (fun e w' => ∃ v0_ : Value, e = .returned (v0_) ∧ Hp noFP w w' [.own (Zd.slice 9 Zd.string) r [v0_]]) := by
 obtain rfl := C_len gp0
 have HS := Hp.start w
 have H := Aside0.mk h
 clear h
 unfold laws_toStringS.f at H
 go_enter Try.func112, Try.ntmps112
 by_cases c1 : 0 ≤ (a0.length : Int)
 case neg => exact zno c1 H
 replace H := zpos c1 H
 replace c1 := eq_true c1
 by_cases c2 : ((a0.length : Int)).toNat ≤ 17592186044416
 case neg => exact zno c2 H
 replace H := zpos c2 H
 replace c2 := eq_true c2
 go_wp2_with (first | ((with_reducible refine gate_dst (N := 7) rfl ?_); refine ev_make rfl Zd.string (⟨#[]⟩ : ByteArray) HS rfl (a0.length : Int) rfl rfl Try.underlying65 info9 rfl (by decide) (by decide) (fun _ _ => rfl) (of_eq_true c1) (by have := of_eq_true c2; omega) ?_; clear HS; (try clear F); intro v3 w3 HS; obtain ⟨B3, d3, rfl, m3⟩ := HS.formn a0.length 0 rfl (by first | rfl | simp); replace HS : Hp noFP w _ [.own (Zd.slice 9 Zd.string) (List.replicate a0.length (⟨#[]⟩ : ByteArray)) [.slice B3 a0.length d3]] := HS))
 go_loopg [4] k (fun kq v_4 w' => ∃ (l18 : List ByteArray) (x20 : Int), v_4 = .int .i64 x20 ∧ Aside0 (laws_toStringS.l0 kq l18 x20 a0 = some r) ∧ Aside0 (kq ≤ k) ∧ Hp noFP w w' [.own (Zd.slice 9 Zd.string) l18 [.slice B3 a0.length d3]])
 case atStart => exact ⟨_, _, rfl, H, ⟨Nat.le_refl _⟩, HS⟩
 case round =>
  clear HS H; (try clear F)
  obtain ⟨l18, x20, rfl, H, HKk17, HS⟩ := hrel
  cases gk with
  | zero => exact absurd H.out (by simp [laws_toStringS.l0])
  | succ k17 =>
   simp only [laws_toStringS.l0] at H
   by_cases c22 : x20 < (a0.length : Int)
   · replace H := zpos c22 H
     replace c22 := eq_true c22
     by_cases c23 : 0 ≤ x20
     case neg => exact zno c23 H
     replace H := zpos c23 H
     replace c23 := eq_true c23
     by_cases c24 : x20 < (a0.length : Int)
     case neg => exact zno c24 H
     replace H := zpos c24 H
     replace c24 := eq_true c24
     obtain ⟨ad25, rfl, e25_0⟩ := Kd.at_string gp0 x20 (of_eq_true c23) (of_eq_true c24)
     have e25_0_25 := HS.keepc e25_0
     obtain ⟨ad26, rfl, e26_0⟩ := Kd.at_string (HS.rd 0 rfl) x20 (of_eq_true c23) (of_eq_true c24)
     go_wp2_with (first | ((with_reducible refine gate_store (p := 20) rfl ?_); refine ev_set rfl Zd.string 0 [] x20 (rdOf ByteArray.empty a0 x20) HS (seg := [.string (rdOf ByteArray.empty a0 x20)]) rfl (by decide) rfl rfl rfl (by first | rfl | exact (Nat.mul_one _).symm) rfl rfl (by kernel_rfl) (by simp [Value.oneCell']) ⟨of_eq_true c23, of_eq_true c24⟩ rfl (made_flat (fun _ => rfl)) ?_; clear HS; (try clear F); intro w27 HS; replace HS : Hp noFP w _ [.own (Zd.slice 9 Zd.string) (l18.set (x20).toNat (rdOf ByteArray.empty a0 x20)) [.slice (some ad26) a0.length d3]] := HS))
     go_roundg k17
     case measure => have := HKk17.out; omega
     case rel => exact ⟨_, _, rfl, H, ⟨by have := HKk17.out; omega⟩, HS.pick [0] (by decide) (by rfl)⟩
   · replace H := zneg c22 H
     replace c22 := eq_false c22
     obtain rfl := zsome H
     go_wp2
     exact bodyPost_ret (results_single rfl (.tmp .nil)) rfl ⟨_, rfl, HS.pick [0] (by decide) (by rfl)⟩
/-! ### laws_toAnswer: function 123 -/
def laws_toAnswer.f (k : Nat) (a0 : S169) : Option (S171) := ((laws_toStringS.f k a0.f2).bind fun t11 => ((laws_toStringS.f k a0.f3).bind fun t16 => (some (⟨a0.f0, a0.f1, t11, t16⟩ : S171))))
set_option maxHeartbeats 16000000 in
theorem laws_toAnswer.calls {k : Nat} {a0 : S169} {Ap0 : Option Addr} {np0 cp0 : Nat} {Ap1 : Option Addr} {np1 cp1 : Nat} {r : S171} {w : World} (h : laws_toAnswer.f k a0 = some r) (gp0 : Kd.string.C w Ap0 np0 a0.f2) (lp0 : np0 ≤ cp0) (gp1 : Kd.string.C w Ap1 np1 a0.f3) (lp1 : np1 ≤ cp1) :
    Calls Try.prog 123 #[.agg #[.int .i64 a0.f0, .int .i64 a0.f1, .slice Ap0 np0 cp0, .slice Ap1 np1 cp1]] w (fun e w' => ∃ v0_ v1_ : Value, e = .returned (.agg #[.int .i64 r.f0, .int .i64 r.f1, v0_, v1_]) ∧ Hp noFP w w' [.own (Zd.slice 9 Zd.string) r.f2 [v0_], .own (Zd.slice 9 Zd.string) r.f3 [v1_]]) := by
 obtain rfl := C_len gp0
 obtain rfl := C_len gp1
 have HS := Hp.start w
 have H := Aside0.mk h
 clear h
 unfold laws_toAnswer.f at H
 go_enter Try.func123, Try.ntmps123
 obtain ⟨t11, ht11, H⟩ := zbind H
 obtain ⟨t16, ht16, H⟩ := zbind H
 obtain rfl := zsome H
 go_wp2_with (first | ((with_reducible refine gate_dst (N := 1) rfl ?_); refine ev_box rfl HS (by first | (go_simp; done) | (go_simp; rfl)) rfl ?_; clear HS; (try clear F); intro g1 w1 HS; replace HS : Hp noFP w _ [.box g1 [.int .i64 a0.f0, .int .i64 a0.f1, .slice Ap0 a0.f2.length cp0, .slice Ap1 a0.f3.length cp1] 169] := HS; have F := HS.boxes; simp only [boxFacts, and_true] at F) | ((with_reducible refine gate_dst (N := 2) rfl ?_); refine ev_box rfl HS (by first | (go_simp; done) | (go_simp; rfl)) rfl ?_; clear HS; (try clear F); intro g2 w2 HS; replace HS : Hp noFP w _ [.box g1 [.int .i64 a0.f0, .int .i64 a0.f1, .slice Ap0 a0.f2.length cp0, .slice Ap1 a0.f3.length cp1] 169, .box g2 [.int .i64 0, .int .i64 0, .slice none 0 0, .slice none 0 0] 171] := HS; have F := HS.boxes; simp only [boxFacts, and_true] at F) | ((with_reducible refine gate_dst (N := 3) rfl ?_); refine ev_box rfl HS (by first | (go_simp; done) | (go_simp; rfl)) rfl ?_; clear HS; (try clear F); intro g3 w3 HS; replace HS : Hp noFP w _ [.box g1 [.int .i64 a0.f0, .int .i64 a0.f1, .slice Ap0 a0.f2.length cp0, .slice Ap1 a0.f3.length cp1] 169, .box g2 [.int .i64 0, .int .i64 0, .slice none 0 0, .slice none 0 0] 171, .box g3 [.int .i64 0, .int .i64 0, .slice none 0 0, .slice none 0 0] 171] := HS; have F := HS.boxes; simp only [boxFacts, and_true] at F) | ((with_reducible refine gate_store (p := 6) rfl ?_); refine ev_store rfl 2 0 HS (seg := [.int .i64 a0.f0]) rfl rfl rfl rfl rfl rfl (by kernel_rfl) (by simp [wrt]) (by simp [Value.oneCell']) ?_; clear HS; (try clear F); intro w7 HS; replace HS : Hp noFP w _ [.box g1 [.int .i64 a0.f0, .int .i64 a0.f1, .slice Ap0 a0.f2.length cp0, .slice Ap1 a0.f3.length cp1] 169, .box g2 [.int .i64 0, .int .i64 0, .slice none 0 0, .slice none 0 0] 171, .box g3 [.int .i64 a0.f0, .int .i64 0, .slice none 0 0, .slice none 0 0] 171] := HS; have F := HS.boxes; simp only [boxFacts, and_true] at F) | ((with_reducible refine gate_store (p := 9) rfl ?_); refine ev_store rfl 2 1 HS (seg := [.int .i64 a0.f1]) rfl rfl rfl rfl rfl rfl (by kernel_rfl) (by simp [wrt]) (by simp [Value.oneCell']) ?_; clear HS; (try clear F); intro w9 HS; replace HS : Hp noFP w _ [.box g1 [.int .i64 a0.f0, .int .i64 a0.f1, .slice Ap0 a0.f2.length cp0, .slice Ap1 a0.f3.length cp1] 169, .box g2 [.int .i64 0, .int .i64 0, .slice none 0 0, .slice none 0 0] 171, .box g3 [.int .i64 a0.f0, .int .i64 a0.f1, .slice none 0 0, .slice none 0 0] 171] := HS; have F := HS.boxes; simp only [boxFacts, and_true] at F) | ((with_reducible refine gate_dst (N := 12) rfl ?_); refine ev_call rfl Try.func112 (by kernel_rfl) rfl #[.slice Ap0 a0.f2.length cp0] rfl (by simp only [List.map_toArray, List.map_cons, List.map_nil]; rfl) ?_; refine (laws_toStringS.calls ht11.out (HS.ro gp0) lp0).mono ?_; rintro _ wt11 ⟨v12, rfl, HQ⟩; refine ⟨_, rfl, ?_⟩; replace HS := HS.call HQ; clear HQ; (try clear F); obtain ⟨B12, d12, rfl, m12⟩ := HS.form 3 rfl; replace HS : Hp noFP w _ [.box g1 [.int .i64 a0.f0, .int .i64 a0.f1, .slice Ap0 a0.f2.length cp0, .slice Ap1 a0.f3.length cp1] 169, .box g2 [.int .i64 0, .int .i64 0, .slice none 0 0, .slice none 0 0] 171, .box g3 [.int .i64 a0.f0, .int .i64 a0.f1, .slice none 0 0, .slice none 0 0] 171, .own (Zd.slice 9 Zd.string) t11 [.slice B12 t11.length d12]] := HS; have F := HS.boxes; simp only [boxFacts, and_true] at F) | ((with_reducible refine gate_store (p := 13) rfl ?_); refine ev_store rfl 2 2 HS (seg := [.slice B12 t11.length d12]) rfl rfl rfl rfl rfl rfl (by kernel_rfl) (by simp [wrt]) (by simp [Value.oneCell']) ?_; clear HS; (try clear F); intro w14 HS; replace HS : Hp noFP w _ [.box g1 [.int .i64 a0.f0, .int .i64 a0.f1, .slice Ap0 a0.f2.length cp0, .slice Ap1 a0.f3.length cp1] 169, .box g2 [.int .i64 0, .int .i64 0, .slice none 0 0, .slice none 0 0] 171, .box g3 [.int .i64 a0.f0, .int .i64 a0.f1, .slice B12 t11.length d12, .slice none 0 0] 171, .own (Zd.slice 9 Zd.string) t11 [.slice B12 t11.length d12]] := HS; have F := HS.boxes; simp only [boxFacts, and_true] at F) | ((with_reducible refine gate_dst (N := 16) rfl ?_); refine ev_call rfl Try.func112 (by kernel_rfl) rfl #[.slice Ap1 a0.f3.length cp1] rfl (by simp only [List.map_toArray, List.map_cons, List.map_nil]; rfl) ?_; refine (laws_toStringS.calls ht16.out (HS.ro gp1) lp1).mono ?_; rintro _ wt16 ⟨v17, rfl, HQ⟩; refine ⟨_, rfl, ?_⟩; replace HS := HS.call HQ; clear HQ; (try clear F); obtain ⟨B17, d17, rfl, m17⟩ := HS.form 4 rfl; replace HS : Hp noFP w _ [.box g1 [.int .i64 a0.f0, .int .i64 a0.f1, .slice Ap0 a0.f2.length cp0, .slice Ap1 a0.f3.length cp1] 169, .box g2 [.int .i64 0, .int .i64 0, .slice none 0 0, .slice none 0 0] 171, .box g3 [.int .i64 a0.f0, .int .i64 a0.f1, .slice B12 t11.length d12, .slice none 0 0] 171, .own (Zd.slice 9 Zd.string) t11 [.slice B12 t11.length d12], .own (Zd.slice 9 Zd.string) t16 [.slice B17 t16.length d17]] := HS; have F := HS.boxes; simp only [boxFacts, and_true] at F) | ((with_reducible refine gate_store (p := 17) rfl ?_); refine ev_store rfl 2 3 HS (seg := [.slice B17 t16.length d17]) rfl rfl rfl rfl rfl rfl (by kernel_rfl) (by simp [wrt]) (by simp [Value.oneCell']) ?_; clear HS; (try clear F); intro w19 HS; replace HS : Hp noFP w _ [.box g1 [.int .i64 a0.f0, .int .i64 a0.f1, .slice Ap0 a0.f2.length cp0, .slice Ap1 a0.f3.length cp1] 169, .box g2 [.int .i64 0, .int .i64 0, .slice none 0 0, .slice none 0 0] 171, .box g3 [.int .i64 a0.f0, .int .i64 a0.f1, .slice B12 t11.length d12, .slice B17 t16.length d17] 171, .own (Zd.slice 9 Zd.string) t11 [.slice B12 t11.length d12], .own (Zd.slice 9 Zd.string) t16 [.slice B17 t16.length d17]] := HS; have F := HS.boxes; simp only [boxFacts, and_true] at F) | ((with_reducible refine gate_store (p := 2) rfl ?_); refine ev_store rfl 1 0 HS (seg := [.int .i64 a0.f0, .int .i64 a0.f1, .slice B12 t11.length d12, .slice B17 t16.length d17]) rfl rfl rfl rfl rfl rfl (by kernel_rfl) (by simp [wrt]) (by simp [Value.oneCell']) ?_; clear HS; (try clear F); intro w21 HS; replace HS : Hp noFP w _ [.box g1 [.int .i64 a0.f0, .int .i64 a0.f1, .slice Ap0 a0.f2.length cp0, .slice Ap1 a0.f3.length cp1] 169, .box g2 [.int .i64 a0.f0, .int .i64 a0.f1, .slice B12 t11.length d12, .slice B17 t16.length d17] 171, .box g3 [.int .i64 a0.f0, .int .i64 a0.f1, .slice B12 t11.length d12, .slice B17 t16.length d17] 171, .own (Zd.slice 9 Zd.string) t11 [.slice B12 t11.length d12], .own (Zd.slice 9 Zd.string) t16 [.slice B17 t16.length d17]] := HS; have F := HS.boxes; simp only [boxFacts, and_true] at F))
 exact bodyPost_ret (results_single rfl (.cell _ _ _ _ _ rfl (HS.boxAt (i := 1) rfl) Try.underlying171 rfl (by kernel_rfl) .nil)) rfl ⟨_, _, rfl, HS.pick [3, 4] (by decide) (by rfl)⟩
/-! ### laws_toAnswerS: function 66 -/
def laws_toAnswerS.l0 : Nat → (List S171) → Int → (List S169) → Option ((List S171))
  | 0, _, _, _ => none
  | k + 1, l22, x24, a0 => (if x24 < (a0.length : Int) then (if 0 ≤ x24 then (if x24 < (a0.length : Int) then ((laws_toAnswer.f k (rd_T169 a0 x24)).bind fun t30 => (laws_toAnswerS.l0 k (l22.set (x24).toNat t30) (wrap64 (x24 + 1)) a0)) else none) else none) else (some l22))
def laws_toAnswerS.f (k : Nat) (a0 : (List S169)) : Option ((List S171)) := (if 0 ≤ (a0.length : Int) then (if ((a0.length : Int)).toNat ≤ 4398046511104 then (laws_toAnswerS.l0 k (List.replicate a0.length z171) 0 a0) else none) else none)
set_option maxHeartbeats 16000000 in
theorem laws_toAnswerS.calls {k : Nat} {a0 : (List S169)} {Ap0 : Option Addr} {np0 cp0 : Nat} {r : (List S171)} {w : World} (h : laws_toAnswerS.f k a0 = some r) (gp0 : k169.C w Ap0 np0 a0) (lp0 : np0 ≤ cp0) :
    Calls Try.prog 66 #[.slice Ap0 np0 cp0] w (fun e w' => ∃ v0_ : Value, e = .returned (v0_) ∧ Hp noFP w w' [.own (Zd.slice 171 q171) r [v0_]]) := by
 obtain rfl := C_len gp0
 have HS := Hp.start w
 have H := Aside0.mk h
 clear h
 unfold laws_toAnswerS.f at H
 go_enter Try.func66, Try.ntmps66
 by_cases c1 : 0 ≤ (a0.length : Int)
 case neg => exact zno c1 H
 replace H := zpos c1 H
 replace c1 := eq_true c1
 by_cases c2 : ((a0.length : Int)).toNat ≤ 4398046511104
 case neg => exact zno c2 H
 replace H := zpos c2 H
 replace c2 := eq_true c2
 go_wp2_with (first | ((with_reducible refine gate_dst (N := 7) rfl ?_); refine ev_make rfl q171 z171 HS rfl (a0.length : Int) rfl rfl Try.underlying47 info171 rfl (by decide) (by decide) q171_zero (of_eq_true c1) (by have := of_eq_true c2; omega) ?_; clear HS; (try clear F); intro v3 w3 HS; obtain ⟨B3, d3, rfl, m3⟩ := HS.formn a0.length 0 rfl (by first | rfl | simp); replace HS : Hp noFP w _ [.own (Zd.slice 171 q171) (List.replicate a0.length z171) [.slice B3 a0.length d3]] := HS))
 go_loopg [4] k (fun kq v_4 w' => ∃ (l22 : List S171) (x24 : Int), v_4 = .int .i64 x24 ∧ Aside0 (laws_toAnswerS.l0 kq l22 x24 a0 = some r) ∧ Aside0 (kq ≤ k) ∧ Hp noFP w w' [.own (Zd.slice 171 q171) l22 [.slice B3 a0.length d3]])
 case atStart => exact ⟨_, _, rfl, H, ⟨Nat.le_refl _⟩, HS⟩
 case round =>
  clear HS H; (try clear F)
  obtain ⟨l22, x24, rfl, H, HKk21, HS⟩ := hrel
  cases gk with
  | zero => exact absurd H.out (by simp [laws_toAnswerS.l0])
  | succ k21 =>
   simp only [laws_toAnswerS.l0] at H
   by_cases c26 : x24 < (a0.length : Int)
   · replace H := zpos c26 H
     replace c26 := eq_true c26
     by_cases c27 : 0 ≤ x24
     case neg => exact zno c27 H
     replace H := zpos c27 H
     replace c27 := eq_true c27
     by_cases c28 : x24 < (a0.length : Int)
     case neg => exact zno c28 H
     replace H := zpos c28 H
     replace c28 := eq_true c28
     obtain ⟨ad29, B29_2, d29_2, B29_3, d29_3, rfl, e29_0, e29_1, e29_2, e29_3, m29_2, y29_2, m29_3, y29_3⟩ := at_T169 gp0 x24 (of_eq_true c27) (of_eq_true c28)
     have e29_0_29 := HS.keepc e29_0
     have e29_1_29 := HS.keepc e29_1
     have e29_2_29 := HS.keepc e29_2
     have e29_3_29 := HS.keepc e29_3
     obtain ⟨t30, ht30, H⟩ := zbind H
     go_wp2_with (first | ((with_reducible refine gate_dst (N := 20) rfl ?_); refine ev_call rfl Try.func123 (by kernel_rfl) rfl #[.agg #[.int .i64 ((rd_T169 a0 x24).f0), .int .i64 ((rd_T169 a0 x24).f1), .slice B29_2 (rd_T169 a0 x24).f2.length d29_2, .slice B29_3 (rd_T169 a0 x24).f3.length d29_3]] rfl (by simp only [List.map_toArray, List.map_cons, List.map_nil]; rfl) ?_; refine (laws_toAnswer.calls ht30.out (HS.ro y29_2) m29_2 (HS.ro y29_3) m29_3).mono ?_; rintro _ wt30 ⟨v31, v32, rfl, HQ⟩; refine ⟨_, rfl, ?_⟩; replace HS := HS.call HQ; clear HQ; (try clear F); obtain ⟨B31, d31, rfl, m31⟩ := HS.form 1 rfl; obtain ⟨B32, d32, rfl, m32⟩ := HS.form 2 rfl; replace HS : Hp noFP w _ [.own (Zd.slice 171 q171) l22 [.slice B3 a0.length d3], .own (Zd.slice 9 Zd.string) t30.f2 [.slice B31 t30.f2.length d31], .own (Zd.slice 9 Zd.string) t30.f3 [.slice B32 t30.f3.length d32]] := HS; obtain ⟨ad34, B34_2, d34_2, B34_3, d34_3, rfl, e34_0, e34_1, e34_2, e34_3, m34_2, y34_2, m34_3, y34_3⟩ := at_T171 (HS.rd 0 rfl) x24 (of_eq_true c27) (of_eq_true c28)) | ((with_reducible refine gate_store (p := 21) rfl ?_); refine ev_set rfl q171 0 [1, 2] x24 t30 HS (seg := [.int .i64 t30.f0, .int .i64 t30.f1, .slice B31 t30.f2.length d31, .slice B32 t30.f3.length d32]) rfl (by decide) rfl rfl rfl (by first | rfl | exact (Nat.mul_one _).symm) rfl rfl (by kernel_rfl) (by simp [Value.oneCell']) ⟨of_eq_true c27, of_eq_true c28⟩ rfl (fun S hd hh => q171_pack (x := t30) hd (hh 1 (.own (Zd.slice 9 Zd.string) t30.f2 [.slice B31 t30.f2.length d31]) rfl) (hh 2 (.own (Zd.slice 9 Zd.string) t30.f3 [.slice B32 t30.f3.length d32]) rfl) (by decide)) ?_; clear HS; (try clear F); intro w35 HS; replace HS : Hp noFP w _ [.own (Zd.slice 171 q171) (l22.set (x24).toNat t30) [.slice (some ad34) a0.length d3], .emp, .emp] := HS))
     go_roundg k21
     case measure => have := HKk21.out; omega
     case rel => exact ⟨_, _, rfl, H, ⟨by have := HKk21.out; omega⟩, HS.pick [0] (by decide) (by rfl)⟩
   · replace H := zneg c26 H
     replace c26 := eq_false c26
     obtain rfl := zsome H
     go_wp2
     exact bodyPost_ret (results_single rfl (.tmp .nil)) rfl ⟨_, rfl, HS.pick [0] (by decide) (by rfl)⟩
/-! ### laws_toReply: function 26 -/
def laws_toReply.f (k : Nat) (a0 : S44) : Option (S49) := ((laws_toAnswerS.f k a0.f6).bind fun t19 => (some (⟨a0.f0, a0.f1, a0.f2, a0.f3, a0.f4, a0.f5, t19, a0.f7⟩ : S49)))
set_option maxHeartbeats 16000000 in
theorem laws_toReply.calls {k : Nat} {a0 : S44} {Ap0 : Option Addr} {np0 cp0 : Nat} {r : S49} {w : World} (h : laws_toReply.f k a0 = some r) (gp0 : k169.C w Ap0 np0 a0.f6) (lp0 : np0 ≤ cp0) :
    Calls Try.prog 26 #[.agg #[.string a0.f0, .int .i64 a0.f1, .int .i64 a0.f2, .int .i64 a0.f3, .int .i64 a0.f4, .int .i64 a0.f5, .slice Ap0 np0 cp0, .string a0.f7]] w (fun e w' => ∃ v0_ : Value, e = .returned (.agg #[.string r.f0, .int .i64 r.f1, .int .i64 r.f2, .int .i64 r.f3, .int .i64 r.f4, .int .i64 r.f5, v0_, .string r.f7]) ∧ Hp noFP w w' [.own (Zd.slice 171 q171) r.f6 [v0_]]) := by
 obtain rfl := C_len gp0
 have HS := Hp.start w
 have H := Aside0.mk h
 clear h
 unfold laws_toReply.f at H
 go_enter Try.func26, Try.ntmps26
 obtain ⟨t19, ht19, H⟩ := zbind H
 obtain rfl := zsome H
 go_wp2_with (first | ((with_reducible refine gate_dst (N := 1) rfl ?_); refine ev_box rfl HS (by first | (go_simp; done) | (go_simp; rfl)) rfl ?_; clear HS; (try clear F); intro g1 w1 HS; replace HS : Hp noFP w _ [.box g1 [.string a0.f0, .int .i64 a0.f1, .int .i64 a0.f2, .int .i64 a0.f3, .int .i64 a0.f4, .int .i64 a0.f5, .slice Ap0 a0.f6.length cp0, .string a0.f7] 44] := HS; have F := HS.boxes; simp only [boxFacts, and_true] at F) | ((with_reducible refine gate_dst (N := 2) rfl ?_); refine ev_box rfl HS (by first | (go_simp; done) | (go_simp; rfl)) rfl ?_; clear HS; (try clear F); intro g2 w2 HS; replace HS : Hp noFP w _ [.box g1 [.string a0.f0, .int .i64 a0.f1, .int .i64 a0.f2, .int .i64 a0.f3, .int .i64 a0.f4, .int .i64 a0.f5, .slice Ap0 a0.f6.length cp0, .string a0.f7] 44, .box g2 [.string (⟨#[]⟩ : ByteArray), .int .i64 0, .int .i64 0, .int .i64 0, .int .i64 0, .int .i64 0, .slice none 0 0, .string (⟨#[]⟩ : ByteArray)] 49] := HS; have F := HS.boxes; simp only [boxFacts, and_true] at F) | ((with_reducible refine gate_dst (N := 3) rfl ?_); refine ev_box rfl HS (by first | (go_simp; done) | (go_simp; rfl)) rfl ?_; clear HS; (try clear F); intro g3 w3 HS; replace HS : Hp noFP w _ [.box g1 [.string a0.f0, .int .i64 a0.f1, .int .i64 a0.f2, .int .i64 a0.f3, .int .i64 a0.f4, .int .i64 a0.f5, .slice Ap0 a0.f6.length cp0, .string a0.f7] 44, .box g2 [.string (⟨#[]⟩ : ByteArray), .int .i64 0, .int .i64 0, .int .i64 0, .int .i64 0, .int .i64 0, .slice none 0 0, .string (⟨#[]⟩ : ByteArray)] 49, .box g3 [.string (⟨#[]⟩ : ByteArray), .int .i64 0, .int .i64 0, .int .i64 0, .int .i64 0, .int .i64 0, .slice none 0 0, .string (⟨#[]⟩ : ByteArray)] 49] := HS; have F := HS.boxes; simp only [boxFacts, and_true] at F) | ((with_reducible refine gate_store (p := 6) rfl ?_); refine ev_store rfl 2 0 HS (seg := [.string a0.f0]) rfl rfl rfl rfl rfl rfl (by kernel_rfl) (by simp [wrt]) (by simp [Value.oneCell']) ?_; clear HS; (try clear F); intro w7 HS; replace HS : Hp noFP w _ [.box g1 [.string a0.f0, .int .i64 a0.f1, .int .i64 a0.f2, .int .i64 a0.f3, .int .i64 a0.f4, .int .i64 a0.f5, .slice Ap0 a0.f6.length cp0, .string a0.f7] 44, .box g2 [.string (⟨#[]⟩ : ByteArray), .int .i64 0, .int .i64 0, .int .i64 0, .int .i64 0, .int .i64 0, .slice none 0 0, .string (⟨#[]⟩ : ByteArray)] 49, .box g3 [.string a0.f0, .int .i64 0, .int .i64 0, .int .i64 0, .int .i64 0, .int .i64 0, .slice none 0 0, .string (⟨#[]⟩ : ByteArray)] 49] := HS; have F := HS.boxes; simp only [boxFacts, and_true] at F) | ((with_reducible refine gate_store (p := 9) rfl ?_); refine ev_store rfl 2 1 HS (seg := [.int .i64 a0.f1]) rfl rfl rfl rfl rfl rfl (by kernel_rfl) (by simp [wrt]) (by simp [Value.oneCell']) ?_; clear HS; (try clear F); intro w9 HS; replace HS : Hp noFP w _ [.box g1 [.string a0.f0, .int .i64 a0.f1, .int .i64 a0.f2, .int .i64 a0.f3, .int .i64 a0.f4, .int .i64 a0.f5, .slice Ap0 a0.f6.length cp0, .string a0.f7] 44, .box g2 [.string (⟨#[]⟩ : ByteArray), .int .i64 0, .int .i64 0, .int .i64 0, .int .i64 0, .int .i64 0, .slice none 0 0, .string (⟨#[]⟩ : ByteArray)] 49, .box g3 [.string a0.f0, .int .i64 a0.f1, .int .i64 0, .int .i64 0, .int .i64 0, .int .i64 0, .slice none 0 0, .string (⟨#[]⟩ : ByteArray)] 49] := HS; have F := HS.boxes; simp only [boxFacts, and_true] at F) | ((with_reducible refine gate_store (p := 12) rfl ?_); refine ev_store rfl 2 2 HS (seg := [.int .i64 a0.f2]) rfl rfl rfl rfl rfl rfl (by kernel_rfl) (by simp [wrt]) (by simp [Value.oneCell']) ?_; clear HS; (try clear F); intro w11 HS; replace HS : Hp noFP w _ [.box g1 [.string a0.f0, .int .i64 a0.f1, .int .i64 a0.f2, .int .i64 a0.f3, .int .i64 a0.f4, .int .i64 a0.f5, .slice Ap0 a0.f6.length cp0, .string a0.f7] 44, .box g2 [.string (⟨#[]⟩ : ByteArray), .int .i64 0, .int .i64 0, .int .i64 0, .int .i64 0, .int .i64 0, .slice none 0 0, .string (⟨#[]⟩ : ByteArray)] 49, .box g3 [.string a0.f0, .int .i64 a0.f1, .int .i64 a0.f2, .int .i64 0, .int .i64 0, .int .i64 0, .slice none 0 0, .string (⟨#[]⟩ : ByteArray)] 49] := HS; have F := HS.boxes; simp only [boxFacts, and_true] at F) | ((with_reducible refine gate_store (p := 15) rfl ?_); refine ev_store rfl 2 3 HS (seg := [.int .i64 a0.f3]) rfl rfl rfl rfl rfl rfl (by kernel_rfl) (by simp [wrt]) (by simp [Value.oneCell']) ?_; clear HS; (try clear F); intro w13 HS; replace HS : Hp noFP w _ [.box g1 [.string a0.f0, .int .i64 a0.f1, .int .i64 a0.f2, .int .i64 a0.f3, .int .i64 a0.f4, .int .i64 a0.f5, .slice Ap0 a0.f6.length cp0, .string a0.f7] 44, .box g2 [.string (⟨#[]⟩ : ByteArray), .int .i64 0, .int .i64 0, .int .i64 0, .int .i64 0, .int .i64 0, .slice none 0 0, .string (⟨#[]⟩ : ByteArray)] 49, .box g3 [.string a0.f0, .int .i64 a0.f1, .int .i64 a0.f2, .int .i64 a0.f3, .int .i64 0, .int .i64 0, .slice none 0 0, .string (⟨#[]⟩ : ByteArray)] 49] := HS; have F := HS.boxes; simp only [boxFacts, and_true] at F) | ((with_reducible refine gate_store (p := 18) rfl ?_); refine ev_store rfl 2 4 HS (seg := [.int .i64 a0.f4]) rfl rfl rfl rfl rfl rfl (by kernel_rfl) (by simp [wrt]) (by simp [Value.oneCell']) ?_; clear HS; (try clear F); intro w15 HS; replace HS : Hp noFP w _ [.box g1 [.string a0.f0, .int .i64 a0.f1, .int .i64 a0.f2, .int .i64 a0.f3, .int .i64 a0.f4, .int .i64 a0.f5, .slice Ap0 a0.f6.length cp0, .string a0.f7] 44, .box g2 [.string (⟨#[]⟩ : ByteArray), .int .i64 0, .int .i64 0, .int .i64 0, .int .i64 0, .int .i64 0, .slice none 0 0, .string (⟨#[]⟩ : ByteArray)] 49, .box g3 [.string a0.f0, .int .i64 a0.f1, .int .i64 a0.f2, .int .i64 a0.f3, .int .i64 a0.f4, .int .i64 0, .slice none 0 0, .string (⟨#[]⟩ : ByteArray)] 49] := HS; have F := HS.boxes; simp only [boxFacts, and_true] at F) | ((with_reducible refine gate_store (p := 21) rfl ?_); refine ev_store rfl 2 5 HS (seg := [.int .i64 a0.f5]) rfl rfl rfl rfl rfl rfl (by kernel_rfl) (by simp [wrt]) (by simp [Value.oneCell']) ?_; clear HS; (try clear F); intro w17 HS; replace HS : Hp noFP w _ [.box g1 [.string a0.f0, .int .i64 a0.f1, .int .i64 a0.f2, .int .i64 a0.f3, .int .i64 a0.f4, .int .i64 a0.f5, .slice Ap0 a0.f6.length cp0, .string a0.f7] 44, .box g2 [.string (⟨#[]⟩ : ByteArray), .int .i64 0, .int .i64 0, .int .i64 0, .int .i64 0, .int .i64 0, .slice none 0 0, .string (⟨#[]⟩ : ByteArray)] 49, .box g3 [.string a0.f0, .int .i64 a0.f1, .int .i64 a0.f2, .int .i64 a0.f3, .int .i64 a0.f4, .int .i64 a0.f5, .slice none 0 0, .string (⟨#[]⟩ : ByteArray)] 49] := HS; have F := HS.boxes; simp only [boxFacts, and_true] at F) | ((with_reducible refine gate_dst (N := 24) rfl ?_); refine ev_call rfl Try.func66 (by kernel_rfl) rfl #[.slice Ap0 a0.f6.length cp0] rfl (by simp only [List.map_toArray, List.map_cons, List.map_nil]; rfl) ?_; refine (laws_toAnswerS.calls ht19.out (HS.ro gp0) lp0).mono ?_; rintro _ wt19 ⟨v20, rfl, HQ⟩; refine ⟨_, rfl, ?_⟩; replace HS := HS.call HQ; clear HQ; (try clear F); obtain ⟨B20, d20, rfl, m20⟩ := HS.form 3 rfl; replace HS : Hp noFP w _ [.box g1 [.string a0.f0, .int .i64 a0.f1, .int .i64 a0.f2, .int .i64 a0.f3, .int .i64 a0.f4, .int .i64 a0.f5, .slice Ap0 a0.f6.length cp0, .string a0.f7] 44, .box g2 [.string (⟨#[]⟩ : ByteArray), .int .i64 0, .int .i64 0, .int .i64 0, .int .i64 0, .int .i64 0, .slice none 0 0, .string (⟨#[]⟩ : ByteArray)] 49, .box g3 [.string a0.f0, .int .i64 a0.f1, .int .i64 a0.f2, .int .i64 a0.f3, .int .i64 a0.f4, .int .i64 a0.f5, .slice none 0 0, .string (⟨#[]⟩ : ByteArray)] 49, .own (Zd.slice 171 q171) t19 [.slice B20 t19.length d20]] := HS; have F := HS.boxes; simp only [boxFacts, and_true] at F) | ((with_reducible refine gate_store (p := 25) rfl ?_); refine ev_store rfl 2 6 HS (seg := [.slice B20 t19.length d20]) rfl rfl rfl rfl rfl rfl (by kernel_rfl) (by simp [wrt]) (by simp [Value.oneCell']) ?_; clear HS; (try clear F); intro w22 HS; replace HS : Hp noFP w _ [.box g1 [.string a0.f0, .int .i64 a0.f1, .int .i64 a0.f2, .int .i64 a0.f3, .int .i64 a0.f4, .int .i64 a0.f5, .slice Ap0 a0.f6.length cp0, .string a0.f7] 44, .box g2 [.string (⟨#[]⟩ : ByteArray), .int .i64 0, .int .i64 0, .int .i64 0, .int .i64 0, .int .i64 0, .slice none 0 0, .string (⟨#[]⟩ : ByteArray)] 49, .box g3 [.string a0.f0, .int .i64 a0.f1, .int .i64 a0.f2, .int .i64 a0.f3, .int .i64 a0.f4, .int .i64 a0.f5, .slice B20 t19.length d20, .string (⟨#[]⟩ : ByteArray)] 49, .own (Zd.slice 171 q171) t19 [.slice B20 t19.length d20]] := HS; have F := HS.boxes; simp only [boxFacts, and_true] at F) | ((with_reducible refine gate_store (p := 28) rfl ?_); refine ev_store rfl 2 7 HS (seg := [.string a0.f7]) rfl rfl rfl rfl rfl rfl (by kernel_rfl) (by simp [wrt]) (by simp [Value.oneCell']) ?_; clear HS; (try clear F); intro w24 HS; replace HS : Hp noFP w _ [.box g1 [.string a0.f0, .int .i64 a0.f1, .int .i64 a0.f2, .int .i64 a0.f3, .int .i64 a0.f4, .int .i64 a0.f5, .slice Ap0 a0.f6.length cp0, .string a0.f7] 44, .box g2 [.string (⟨#[]⟩ : ByteArray), .int .i64 0, .int .i64 0, .int .i64 0, .int .i64 0, .int .i64 0, .slice none 0 0, .string (⟨#[]⟩ : ByteArray)] 49, .box g3 [.string a0.f0, .int .i64 a0.f1, .int .i64 a0.f2, .int .i64 a0.f3, .int .i64 a0.f4, .int .i64 a0.f5, .slice B20 t19.length d20, .string a0.f7] 49, .own (Zd.slice 171 q171) t19 [.slice B20 t19.length d20]] := HS; have F := HS.boxes; simp only [boxFacts, and_true] at F) | ((with_reducible refine gate_store (p := 2) rfl ?_); refine ev_store rfl 1 0 HS (seg := [.string a0.f0, .int .i64 a0.f1, .int .i64 a0.f2, .int .i64 a0.f3, .int .i64 a0.f4, .int .i64 a0.f5, .slice B20 t19.length d20, .string a0.f7]) rfl rfl rfl rfl rfl rfl (by kernel_rfl) (by simp [wrt]) (by simp [Value.oneCell']) ?_; clear HS; (try clear F); intro w26 HS; replace HS : Hp noFP w _ [.box g1 [.string a0.f0, .int .i64 a0.f1, .int .i64 a0.f2, .int .i64 a0.f3, .int .i64 a0.f4, .int .i64 a0.f5, .slice Ap0 a0.f6.length cp0, .string a0.f7] 44, .box g2 [.string a0.f0, .int .i64 a0.f1, .int .i64 a0.f2, .int .i64 a0.f3, .int .i64 a0.f4, .int .i64 a0.f5, .slice B20 t19.length d20, .string a0.f7] 49, .box g3 [.string a0.f0, .int .i64 a0.f1, .int .i64 a0.f2, .int .i64 a0.f3, .int .i64 a0.f4, .int .i64 a0.f5, .slice B20 t19.length d20, .string a0.f7] 49, .own (Zd.slice 171 q171) t19 [.slice B20 t19.length d20]] := HS; have F := HS.boxes; simp only [boxFacts, and_true] at F))
 exact bodyPost_ret (results_single rfl (.cell _ _ _ _ _ rfl (HS.boxAt (i := 1) rfl) Try.underlying49 rfl (by kernel_rfl) .nil)) rfl ⟨_, rfl, HS.pick [3] (by decide) (by rfl)⟩
/-! ### laws_eqStringS: function 96 -/
def laws_eqStringS.l0 : Nat → Int → (List ByteArray) → (List ByteArray) → Option (Bool)
  | 0, _, _, _ => none
  | k + 1, x5, a0, a1 => (if x5 < (a0.length : Int) then (if 0 ≤ x5 then (if x5 < (a0.length : Int) then (if x5 < (a1.length : Int) then (if (rdOf ByteArray.empty a0 x5).toList = (rdOf ByteArray.empty a1 x5).toList then (laws_eqStringS.l0 k (wrap64 (x5 + 1)) a0 a1) else (some false)) else none) else none) else none) else (some true))
def laws_eqStringS.f (k : Nat) (a0 : (List ByteArray)) (a1 : (List ByteArray)) : Option (Bool) := (if (a0.length : Int) = (a1.length : Int) then (laws_eqStringS.l0 k 0 a0 a1) else (some false))
def laws_eqStringS.T6 : Bool × List (List Nat × List Nat) := (true, [([], []), ([], []), ([0, 1], [0, 1]), ([2], [2]), ([], []), ([], []), ([4, 5], [4, 5]), ([6], [6]), ([3, 7], [3, 7])])
theorem laws_eqStringS.tT6 : rtab .any (opsOf Try.f96 6) = laws_eqStringS.T6 := by kernel_rfl
set_option maxHeartbeats 16000000 in
theorem laws_eqStringS.calls {k : Nat} {a0 : (List ByteArray)} {a1 : (List ByteArray)} {Ap0 : Option Addr} {np0 cp0 : Nat} {Ap1 : Option Addr} {np1 cp1 : Nat} {r : Bool} {w : World} (h : laws_eqStringS.f k a0 a1 = some r) (gp0 : Kd.string.C w Ap0 np0 a0) (lp0 : np0 ≤ cp0) (gp1 : Kd.string.C w Ap1 np1 a1) (lp1 : np1 ≤ cp1) :
    Calls Try.prog 96 #[.slice Ap0 np0 cp0, .slice Ap1 np1 cp1] w (fun e w' => e = .returned (.bool r) ∧ Hp noFP w w' []) := by
 obtain rfl := C_len gp0
 obtain rfl := C_len gp1
 have HS := Hp.start w
 have H := Aside0.mk h
 clear h
 unfold laws_eqStringS.f at H
 go_enter Try.func96, Try.ntmps96
 by_cases c1 : (a0.length : Int) = (a1.length : Int)
 · replace H := zpos c1 H
   have c1a := beq_iff_eq.mpr c1
   have c1b := bne_eq_false_iff_eq.mpr c1
   clear c1
   go_wp2
   go_loopg [5] k (fun kq v_5 w' => ∃ (x5 : Int), v_5 = .int .i64 x5 ∧ Aside0 (laws_eqStringS.l0 kq x5 a0 a1 = some r) ∧ Aside0 (kq ≤ k) ∧ Hp noFP w w' [])
   case atStart => exact ⟨_, rfl, H, ⟨Nat.le_refl _⟩, HS⟩
   case round =>
    clear HS H; (try clear F)
    obtain ⟨x5, rfl, H, HKk4, HS⟩ := hrel
    cases gk with
    | zero => exact absurd H.out (by simp [laws_eqStringS.l0])
    | succ k4 =>
     simp only [laws_eqStringS.l0] at H
     by_cases c7 : x5 < (a0.length : Int)
     · replace H := zpos c7 H
       replace c7 := eq_true c7
       (try go_wp2)
       by_cases c102001 : 0 ≤ x5
       case neg => exact zno c102001 H
       replace H := zpos c102001 H
       replace c102001 := eq_true c102001
       by_cases c102002 : x5 < (a0.length : Int)
       case neg => exact zno c102002 H
       replace H := zpos c102002 H
       replace c102002 := eq_true c102002
       obtain ⟨ad102003, rfl, e102003_0⟩ := Kd.at_string gp0 x5 (of_eq_true c102001) (of_eq_true c102002)
       by_cases c106001 : x5 < (a1.length : Int)
       case neg => exact zno c106001 H
       replace H := zpos c106001 H
       replace c106001 := eq_true c106001
       obtain ⟨ad106002, rfl, e106002_0⟩ := Kd.at_string gp1 x5 (of_eq_true c102001) (of_eq_true c106001)
       refine dr_start [] HS #[false, false, false, false, false, false, false, false, false] (by kernel_rfl) rfl rfl laws_eqStringS.tT6 (fun w9 HT HS HH => ?_)
       (try clear F)
       refine drq_of [(0, some 17), (1, some 18), (2, some 19)] ?_
       repeat (first | (refine drq_pure HT (v := ?_) (a' := ?_) rfl rfl (by kernel_rfl) (fun _ _ _ h => h) (.inl ⟨by rfl, ?_⟩) ?_ ?_; rotate_left; (intro w'; go_simp; with_reducible rfl); rotate_left; (simp only [Act.put, List.setIfInBounds_toArray, List.set_cons_zero, List.set_cons_succ, i64_w, i32_w]; rfl)))
       refine drq_end ?_
       refine dr_take 3 (some 20) HT HH (v := ?_) (a' := ?_) rfl rfl (by kernel_rfl) (fun _ _ _ h => h) (.inl ⟨by rfl, ?_⟩) ?_ ?_
       rotate_left
       · rintro w' ⟨rs', HS'⟩; have e102003_0 := HS'.keepc e102003_0; go_simp; with_reducible rfl
       rotate_left
       · simp only [Act.put, List.setIfInBounds_toArray, List.set_cons_zero, List.set_cons_succ, i64_w, i32_w]; rfl
       refine drq_of [(4, some 21), (5, some 22), (6, some 23)] ?_
       repeat (first | (refine drq_pure HT (v := ?_) (a' := ?_) rfl rfl (by kernel_rfl) (fun _ _ _ h => h) (.inl ⟨by rfl, ?_⟩) ?_ ?_; rotate_left; (intro w'; go_simp; with_reducible rfl); rotate_left; (simp only [Act.put, List.setIfInBounds_toArray, List.set_cons_zero, List.set_cons_succ, i64_w, i32_w]; rfl)))
       refine drq_end ?_
       refine dr_take 7 (some 24) HT HH (v := ?_) (a' := ?_) rfl rfl (by kernel_rfl) (fun _ _ _ h => h) (.inl ⟨by rfl, ?_⟩) ?_ ?_
       rotate_left
       · rintro w' ⟨rs', HS'⟩; have e106002_0 := HS'.keepc e106002_0; go_simp; with_reducible rfl
       rotate_left
       · simp only [Act.put, List.setIfInBounds_toArray, List.set_cons_zero, List.set_cons_succ, i64_w, i32_w]; rfl
       refine drq_of [(8, some 25)] ?_
       repeat (first | (refine drq_pure HT (v := ?_) (a' := ?_) rfl rfl (by kernel_rfl) (fun _ _ _ h => h) (.inl ⟨by rfl, ?_⟩) ?_ ?_; rotate_left; (intro w'; go_simp; with_reducible rfl); rotate_left; (simp only [Act.put, List.setIfInBounds_toArray, List.set_cons_zero, List.set_cons_succ, i64_w, i32_w]; rfl)))
       refine drq_end ?_
       refine done_ (done_of HT.out (by kernel_rfl)) ?_
       by_cases c11 : (rdOf ByteArray.empty a0 x5).toList = (rdOf ByteArray.empty a1 x5).toList
       · replace H := zpos c11 H
         have c11a := beq_iff_eq.mpr c11
         have c11b := bne_eq_false_iff_eq.mpr c11
         clear c11
         (try simp only [c11a, c11b, decide_true, decide_false, Bool.not_true, Bool.not_false])
         go_wp2
         go_roundg k4
         case measure => have := HKk4.out; omega
         case rel => exact ⟨_, rfl, H, ⟨by have := HKk4.out; omega⟩, HS.pick [] (by decide) (by rfl)⟩
       · replace H := zneg c11 H
         have c11a := beq_eq_false_iff_ne.mpr c11
         have c11b := bne_iff_ne.mpr c11
         clear c11
         (try simp only [c11a, c11b, decide_true, decide_false, Bool.not_true, Bool.not_false])
         obtain rfl := zsome H
         go_wp2
         go_ret
         exact ⟨rfl, HS.pick [] (by decide) (by rfl)⟩
     · replace H := zneg c7 H
       replace c7 := eq_false c7
       obtain rfl := zsome H
       go_wp2
       go_ret
       exact ⟨rfl, HS.pick [] (by decide) (by rfl)⟩
 · replace H := zneg c1 H
   have c1a := beq_eq_false_iff_ne.mpr c1
   have c1b := bne_iff_ne.mpr c1
   clear c1
   obtain rfl := zsome H
   go_wp2
   go_ret
   exact ⟨rfl, HS.pick [] (by decide) (by rfl)⟩
/-! ### laws_eqAnswer: function 130 -/
def laws_eqAnswer.f (k : Nat) (a0 : S171) (a1 : S171) : Option (Bool) := (if a0.f0 = a1.f0 then (if a0.f1 = a1.f1 then ((laws_eqStringS.f k a0.f2 a1.f2).bind fun t7 => (if t7 = true then ((laws_eqStringS.f k a0.f3 a1.f3).bind fun t10 => (if t10 = true then (some true) else (some false))) else (some false))) else (some false)) else (some false))
set_option maxHeartbeats 16000000 in
theorem laws_eqAnswer.calls {k : Nat} {a0 : S171} {a1 : S171} {Ap0 : Option Addr} {np0 cp0 : Nat} {Ap1 : Option Addr} {np1 cp1 : Nat} {Ap2 : Option Addr} {np2 cp2 : Nat} {Ap3 : Option Addr} {np3 cp3 : Nat} {r : Bool} {w : World} (h : laws_eqAnswer.f k a0 a1 = some r) (gp0 : Kd.string.C w Ap0 np0 a0.f2) (lp0 : np0 ≤ cp0) (gp1 : Kd.string.C w Ap1 np1 a0.f3) (lp1 : np1 ≤ cp1) (gp2 : Kd.string.C w Ap2 np2 a1.f2) (lp2 : np2 ≤ cp2) (gp3 : Kd.string.C w Ap3 np3 a1.f3) (lp3 : np3 ≤ cp3) :
    Calls Try.prog 130 #[.agg #[.int .i64 a0.f0, .int .i64 a0.f1, .slice Ap0 np0 cp0, .slice Ap1 np1 cp1], .agg #[.int .i64 a1.f0, .int .i64 a1.f1, .slice Ap2 np2 cp2, .slice Ap3 np3 cp3]] w (fun e w' => e = .returned (.bool r) ∧ Hp noFP w w' []) := by
 obtain rfl := C_len gp0
 obtain rfl := C_len gp1
 obtain rfl := C_len gp2
 obtain rfl := C_len gp3
 have HS := Hp.start w
 have H := Aside0.mk h
 clear h
 unfold laws_eqAnswer.f at H
 go_enter Try.func130, Try.ntmps130
 go_upto_if 9 with (first | ((with_reducible refine gate_dst (N := 2) rfl ?_); refine ev_box rfl HS (by first | (go_simp; done) | (go_simp; rfl)) rfl ?_; clear HS; (try clear F); intro g2 w2 HS; replace HS : Hp noFP w _ [.box g2 [.int .i64 a0.f0, .int .i64 a0.f1, .slice Ap0 a0.f2.length cp0, .slice Ap1 a0.f3.length cp1] 171] := HS; have F := HS.boxes; simp only [boxFacts, and_true] at F) | ((with_reducible refine gate_dst (N := 3) rfl ?_); refine ev_box rfl HS (by first | (go_simp; done) | (go_simp; rfl)) rfl ?_; clear HS; (try clear F); intro g3 w3 HS; replace HS : Hp noFP w _ [.box g2 [.int .i64 a0.f0, .int .i64 a0.f1, .slice Ap0 a0.f2.length cp0, .slice Ap1 a0.f3.length cp1] 171, .box g3 [.int .i64 a1.f0, .int .i64 a1.f1, .slice Ap2 a1.f2.length cp2, .slice Ap3 a1.f3.length cp3] 171] := HS; have F := HS.boxes; simp only [boxFacts, and_true] at F))
 by_cases c5 : a0.f0 = a1.f0
 · replace H := zpos c5 H
   have c5a := beq_iff_eq.mpr c5
   have c5b := bne_eq_false_iff_eq.mpr c5
   clear c5
   (try simp only [c5a, c5b, decide_true, decide_false, Bool.not_true, Bool.not_false])
   by_cases c6 : a0.f1 = a1.f1
   · replace H := zpos c6 H
     have c6a := beq_iff_eq.mpr c6
     have c6b := bne_eq_false_iff_eq.mpr c6
     clear c6
     obtain ⟨t7, ht7, H⟩ := zbind H
     go_upto_if 20 with (first | ((with_reducible refine gate_dst (N := 19) rfl ?_); refine ev_call rfl Try.func96 (by kernel_rfl) rfl #[.slice Ap0 a0.f2.length cp0, .slice Ap2 a1.f2.length cp2] rfl (by simp only [List.map_toArray, List.map_cons, List.map_nil]; rfl) ?_; refine (laws_eqStringS.calls ht7.out (HS.ro gp0) lp0 (HS.ro gp2) lp2).mono ?_; rintro _ wt7 ⟨rfl, HQ⟩; refine ⟨_, rfl, ?_⟩; replace HS := HS.call HQ; clear HQ; (try clear F); replace HS : Hp noFP w _ [.box g2 [.int .i64 a0.f0, .int .i64 a0.f1, .slice Ap0 a0.f2.length cp0, .slice Ap1 a0.f3.length cp1] 171, .box g3 [.int .i64 a1.f0, .int .i64 a1.f1, .slice Ap2 a1.f2.length cp2, .slice Ap3 a1.f3.length cp3] 171] := HS; have F := HS.boxes; simp only [boxFacts, and_true] at F))
     by_cases c9 : t7 = true
     · replace H := zpos c9 H
       (try simp only [c9, decide_true, decide_false, Bool.not_true, Bool.not_false])
       obtain ⟨t10, ht10, H⟩ := zbind H
       go_upto_if 26 with (first | ((with_reducible refine gate_dst (N := 25) rfl ?_); refine ev_call rfl Try.func96 (by kernel_rfl) rfl #[.slice Ap1 a0.f3.length cp1, .slice Ap3 a1.f3.length cp3] rfl (by simp only [List.map_toArray, List.map_cons, List.map_nil]; rfl) ?_; refine (laws_eqStringS.calls ht10.out (HS.ro gp1) lp1 (HS.ro gp3) lp3).mono ?_; rintro _ wt10 ⟨rfl, HQ⟩; refine ⟨_, rfl, ?_⟩; replace HS := HS.call HQ; clear HQ; (try clear F); replace HS : Hp noFP w _ [.box g2 [.int .i64 a0.f0, .int .i64 a0.f1, .slice Ap0 a0.f2.length cp0, .slice Ap1 a0.f3.length cp1] 171, .box g3 [.int .i64 a1.f0, .int .i64 a1.f1, .slice Ap2 a1.f2.length cp2, .slice Ap3 a1.f3.length cp3] 171] := HS; have F := HS.boxes; simp only [boxFacts, and_true] at F))
       by_cases c12 : t10 = true
       · replace H := zpos c12 H
         (try simp only [c12, decide_true, decide_false, Bool.not_true, Bool.not_false])
         obtain rfl := zsome H
         go_wp2
         go_ret
         exact ⟨rfl, HS.pick [] (by decide) (by rfl)⟩
       · replace H := zneg c12 H
         replace c12 := eq_false_of_ne_true c12
         (try simp only [c12, decide_true, decide_false, Bool.not_true, Bool.not_false])
         obtain rfl := zsome H
         go_wp2
         go_ret
         exact ⟨rfl, HS.pick [] (by decide) (by rfl)⟩
     · replace H := zneg c9 H
       replace c9 := eq_false_of_ne_true c9
       (try simp only [c9, decide_true, decide_false, Bool.not_true, Bool.not_false])
       obtain rfl := zsome H
       go_wp2
       go_ret
       exact ⟨rfl, HS.pick [] (by decide) (by rfl)⟩
   · replace H := zneg c6 H
     have c6a := beq_eq_false_iff_ne.mpr c6
     have c6b := bne_iff_ne.mpr c6
     clear c6
     obtain rfl := zsome H
     go_wp2
     go_ret
     exact ⟨rfl, HS.pick [] (by decide) (by rfl)⟩
 · replace H := zneg c5 H
   have c5a := beq_eq_false_iff_ne.mpr c5
   have c5b := bne_iff_ne.mpr c5
   clear c5
   (try simp only [c5a, c5b, decide_true, decide_false, Bool.not_true, Bool.not_false])
   obtain rfl := zsome H
   go_wp2
   go_ret
   exact ⟨rfl, HS.pick [] (by decide) (by rfl)⟩
/-! ### laws_eqAnswerS: function 69 -/
def laws_eqAnswerS.l0 : Nat → Int → (List S171) → (List S171) → Option (Bool)
  | 0, _, _, _ => none
  | k + 1, x5, a0, a1 => (if x5 < (a0.length : Int) then (if 0 ≤ x5 then (if x5 < (a0.length : Int) then (if x5 < (a1.length : Int) then ((laws_eqAnswer.f k (rd_T171 a0 x5) (rd_T171 a1 x5)).bind fun t108001 => (if t108001 = true then (laws_eqAnswerS.l0 k (wrap64 (x5 + 1)) a0 a1) else (some false))) else none) else none) else none) else (some true))
def laws_eqAnswerS.f (k : Nat) (a0 : (List S171)) (a1 : (List S171)) : Option (Bool) := (if (a0.length : Int) = (a1.length : Int) then (laws_eqAnswerS.l0 k 0 a0 a1) else (some false))
def laws_eqAnswerS.T6 : Bool × List (List Nat × List Nat) := (true, [([], []), ([], []), ([0, 1], [0, 1]), ([2], [2]), ([], []), ([], []), ([4, 5], [4, 5]), ([6], [6]), ([3, 7], [3, 7]), ([8], [8])])
theorem laws_eqAnswerS.tT6 : rtab .any (opsOf Try.f69 6) = laws_eqAnswerS.T6 := by kernel_rfl
set_option maxHeartbeats 16000000 in
theorem laws_eqAnswerS.calls {k : Nat} {a0 : (List S171)} {a1 : (List S171)} {Ap0 : Option Addr} {np0 cp0 : Nat} {Ap1 : Option Addr} {np1 cp1 : Nat} {r : Bool} {w : World} (h : laws_eqAnswerS.f k a0 a1 = some r) (gp0 : k171.C w Ap0 np0 a0) (lp0 : np0 ≤ cp0) (gp1 : k171.C w Ap1 np1 a1) (lp1 : np1 ≤ cp1) :
    Calls Try.prog 69 #[.slice Ap0 np0 cp0, .slice Ap1 np1 cp1] w (fun e w' => e = .returned (.bool r) ∧ Hp noFP w w' []) := by
 obtain rfl := C_len gp0
 obtain rfl := C_len gp1
 have HS := Hp.start w
 have H := Aside0.mk h
 clear h
 unfold laws_eqAnswerS.f at H
 go_enter Try.func69, Try.ntmps69
 by_cases c1 : (a0.length : Int) = (a1.length : Int)
 · replace H := zpos c1 H
   have c1a := beq_iff_eq.mpr c1
   have c1b := bne_eq_false_iff_eq.mpr c1
   clear c1
   go_wp2
   go_loopg [5] k (fun kq v_5 w' => ∃ (x5 : Int), v_5 = .int .i64 x5 ∧ Aside0 (laws_eqAnswerS.l0 kq x5 a0 a1 = some r) ∧ Aside0 (kq ≤ k) ∧ Hp noFP w w' [])
   case atStart => exact ⟨_, rfl, H, ⟨Nat.le_refl _⟩, HS⟩
   case round =>
    clear HS H; (try clear F)
    obtain ⟨x5, rfl, H, HKk4, HS⟩ := hrel
    cases gk with
    | zero => exact absurd H.out (by simp [laws_eqAnswerS.l0])
    | succ k4 =>
     simp only [laws_eqAnswerS.l0] at H
     by_cases c7 : x5 < (a0.length : Int)
     · replace H := zpos c7 H
       replace c7 := eq_true c7
       (try go_wp2)
       by_cases c102001 : 0 ≤ x5
       case neg => exact zno c102001 H
       replace H := zpos c102001 H
       replace c102001 := eq_true c102001
       by_cases c102002 : x5 < (a0.length : Int)
       case neg => exact zno c102002 H
       replace H := zpos c102002 H
       replace c102002 := eq_true c102002
       obtain ⟨ad102003, B102003_2, d102003_2, B102003_3, d102003_3, rfl, e102003_0, e102003_1, e102003_2, e102003_3, m102003_2, y102003_2, m102003_3, y102003_3⟩ := at_T171 gp0 x5 (of_eq_true c102001) (of_eq_true c102002)
       by_cases c106001 : x5 < (a1.length : Int)
       case neg => exact zno c106001 H
       replace H := zpos c106001 H
       replace c106001 := eq_true c106001
       obtain ⟨ad106002, B106002_2, d106002_2, B106002_3, d106002_3, rfl, e106002_0, e106002_1, e106002_2, e106002_3, m106002_2, y106002_2, m106002_3, y106002_3⟩ := at_T171 gp1 x5 (of_eq_true c102001) (of_eq_true c106001)
       obtain ⟨t108001, ht108001, H⟩ := zbind H
       refine dr_start [] HS #[false, false, false, false, false, false, false, false, false, false] (by kernel_rfl) rfl rfl laws_eqAnswerS.tT6 (fun w9 HT HS HH => ?_)
       (try clear F)
       refine drq_of [(0, some 17), (1, some 18), (2, some 19)] ?_
       repeat (first | (refine drq_pure HT (v := ?_) (a' := ?_) rfl rfl (by kernel_rfl) (fun _ _ _ h => h) (.inl ⟨by rfl, ?_⟩) ?_ ?_; rotate_left; (intro w'; go_simp; with_reducible rfl); rotate_left; (simp only [Act.put, List.setIfInBounds_toArray, List.set_cons_zero, List.set_cons_succ, i64_w, i32_w]; rfl)))
       refine drq_end ?_
       refine dr_take 3 (some 20) HT HH (v := ?_) (a' := ?_) rfl rfl (by kernel_rfl) (fun _ _ _ h => h) (.inl ⟨by rfl, ?_⟩) ?_ ?_
       rotate_left
       · rintro w' ⟨rs', HS'⟩; have e102003_0 := HS'.keepc e102003_0; have e102003_1 := HS'.keepc e102003_1; have e102003_2 := HS'.keepc e102003_2; have e102003_3 := HS'.keepc e102003_3; go_simp; with_reducible rfl
       rotate_left
       · simp only [Act.put, List.setIfInBounds_toArray, List.set_cons_zero, List.set_cons_succ, i64_w, i32_w]; rfl
       refine drq_of [(4, some 21), (5, some 22), (6, some 23)] ?_
       repeat (first | (refine drq_pure HT (v := ?_) (a' := ?_) rfl rfl (by kernel_rfl) (fun _ _ _ h => h) (.inl ⟨by rfl, ?_⟩) ?_ ?_; rotate_left; (intro w'; go_simp; with_reducible rfl); rotate_left; (simp only [Act.put, List.setIfInBounds_toArray, List.set_cons_zero, List.set_cons_succ, i64_w, i32_w]; rfl)))
       refine drq_end ?_
       refine dr_take 7 (some 24) HT HH (v := ?_) (a' := ?_) rfl rfl (by kernel_rfl) (fun _ _ _ h => h) (.inl ⟨by rfl, ?_⟩) ?_ ?_
       rotate_left
       · rintro w' ⟨rs', HS'⟩; have e106002_0 := HS'.keepc e106002_0; have e106002_1 := HS'.keepc e106002_1; have e106002_2 := HS'.keepc e106002_2; have e106002_3 := HS'.keepc e106002_3; go_simp; with_reducible rfl
       rotate_left
       · simp only [Act.put, List.setIfInBounds_toArray, List.set_cons_zero, List.set_cons_succ, i64_w, i32_w]; rfl
       refine dr_one 8 HT rfl (by kernel_rfl) (by decide) (fun K hK => ?_)
       refine goes_ Try.func130 (by kernel_rfl) rfl #[.agg #[.int .i64 ((rd_T171 a0 x5).f0), .int .i64 ((rd_T171 a0 x5).f1), .slice B102003_2 (rd_T171 a0 x5).f2.length d102003_2, .slice B102003_3 (rd_T171 a0 x5).f3.length d102003_3], .agg #[.int .i64 ((rd_T171 a1 x5).f0), .int .i64 ((rd_T171 a1 x5).f1), .slice B106002_2 (rd_T171 a1 x5).f2.length d106002_2, .slice B106002_3 (rd_T171 a1 x5).f3.length d106002_3]] (by rfl) rfl rfl (by simp only [List.map_toArray, List.map_cons, List.map_nil]; rfl) ?_; refine (laws_eqAnswer.calls ht108001.out (HS.ro y102003_2) m102003_2 (HS.ro y102003_3) m102003_3 (HS.ro y106002_2) m106002_2 (HS.ro y106002_3) m106002_3).mono ?_; rintro _ wt108001 ⟨rfl, HQ⟩; refine ⟨_, rfl, ?_⟩; replace HS := HS.call HQ; clear HQ; (try clear F)
       replace HS : Hp noFP w _ [] := HS
       refine hK.out _ _ ⟨_, HS⟩ (fun HH => ?_)
       clear hK K
       refine norm_ (a' := ?_) ?_ ?_
       rotate_left
       · show Act.put _ (some 25) _ = _; simp only [Act.put, List.setIfInBounds_toArray, List.set_cons_zero, List.set_cons_succ, i64_w, i32_w]; rfl
       refine drq_of [(9, some 26)] ?_
       repeat (first | (refine drq_pure HT (v := ?_) (a' := ?_) rfl rfl (by kernel_rfl) (fun _ _ _ h => h) (.inl ⟨by rfl, ?_⟩) ?_ ?_; rotate_left; (intro w'; go_simp; with_reducible rfl); rotate_left; (simp only [Act.put, List.setIfInBounds_toArray, List.set_cons_zero, List.set_cons_succ, i64_w, i32_w]; rfl)))
       refine drq_end ?_
       refine done_ (done_of HT.out (by kernel_rfl)) ?_
       by_cases c11 : t108001 = true
       · replace H := zpos c11 H
         (try simp only [c11, decide_true, decide_false, Bool.not_true, Bool.not_false])
         go_wp2
         go_roundg k4
         case measure => have := HKk4.out; omega
         case rel => exact ⟨_, rfl, H, ⟨by have := HKk4.out; omega⟩, HS.pick [] (by decide) (by rfl)⟩
       · replace H := zneg c11 H
         replace c11 := eq_false_of_ne_true c11
         (try simp only [c11, decide_true, decide_false, Bool.not_true, Bool.not_false])
         obtain rfl := zsome H
         go_wp2
         go_ret
         exact ⟨rfl, HS.pick [] (by decide) (by rfl)⟩
     · replace H := zneg c7 H
       replace c7 := eq_false c7
       obtain rfl := zsome H
       go_wp2
       go_ret
       exact ⟨rfl, HS.pick [] (by decide) (by rfl)⟩
 · replace H := zneg c1 H
   have c1a := beq_eq_false_iff_ne.mpr c1
   have c1b := bne_iff_ne.mpr c1
   clear c1
   obtain rfl := zsome H
   go_wp2
   go_ret
   exact ⟨rfl, HS.pick [] (by decide) (by rfl)⟩
/-! ### laws_eqReply: function 28 -/
def laws_eqReply.f (k : Nat) (a0 : S49) (a1 : S49) : Option (Bool) := (if a0.f0.toList = a1.f0.toList then (if a0.f1 = a1.f1 then (if a0.f2 = a1.f2 then (if a0.f3 = a1.f3 then (if a0.f4 = a1.f4 then (if a0.f5 = a1.f5 then ((laws_eqAnswerS.f k a0.f6 a1.f6).bind fun t11 => (if t11 = true then (if a0.f7.toList = a1.f7.toList then (some true) else (some false)) else (some false))) else (some false)) else (some false)) else (some false)) else (some false)) else (some false)) else (some false))
set_option maxHeartbeats 16000000 in
theorem laws_eqReply.calls {k : Nat} {a0 : S49} {a1 : S49} {Ap0 : Option Addr} {np0 cp0 : Nat} {Ap1 : Option Addr} {np1 cp1 : Nat} {r : Bool} {w : World} (h : laws_eqReply.f k a0 a1 = some r) (gp0 : k171.C w Ap0 np0 a0.f6) (lp0 : np0 ≤ cp0) (gp1 : k171.C w Ap1 np1 a1.f6) (lp1 : np1 ≤ cp1) :
    Calls Try.prog 28 #[.agg #[.string a0.f0, .int .i64 a0.f1, .int .i64 a0.f2, .int .i64 a0.f3, .int .i64 a0.f4, .int .i64 a0.f5, .slice Ap0 np0 cp0, .string a0.f7], .agg #[.string a1.f0, .int .i64 a1.f1, .int .i64 a1.f2, .int .i64 a1.f3, .int .i64 a1.f4, .int .i64 a1.f5, .slice Ap1 np1 cp1, .string a1.f7]] w (fun e w' => e = .returned (.bool r) ∧ Hp noFP w w' []) := by
 obtain rfl := C_len gp0
 obtain rfl := C_len gp1
 have HS := Hp.start w
 have H := Aside0.mk h
 clear h
 unfold laws_eqReply.f at H
 go_enter Try.func28, Try.ntmps28
 go_upto_if 9 with (first | ((with_reducible refine gate_dst (N := 2) rfl ?_); refine ev_box rfl HS (by first | (go_simp; done) | (go_simp; rfl)) rfl ?_; clear HS; (try clear F); intro g2 w2 HS; replace HS : Hp noFP w _ [.box g2 [.string a0.f0, .int .i64 a0.f1, .int .i64 a0.f2, .int .i64 a0.f3, .int .i64 a0.f4, .int .i64 a0.f5, .slice Ap0 a0.f6.length cp0, .string a0.f7] 49] := HS; have F := HS.boxes; simp only [boxFacts, and_true] at F) | ((with_reducible refine gate_dst (N := 3) rfl ?_); refine ev_box rfl HS (by first | (go_simp; done) | (go_simp; rfl)) rfl ?_; clear HS; (try clear F); intro g3 w3 HS; replace HS : Hp noFP w _ [.box g2 [.string a0.f0, .int .i64 a0.f1, .int .i64 a0.f2, .int .i64 a0.f3, .int .i64 a0.f4, .int .i64 a0.f5, .slice Ap0 a0.f6.length cp0, .string a0.f7] 49, .box g3 [.string a1.f0, .int .i64 a1.f1, .int .i64 a1.f2, .int .i64 a1.f3, .int .i64 a1.f4, .int .i64 a1.f5, .slice Ap1 a1.f6.length cp1, .string a1.f7] 49] := HS; have F := HS.boxes; simp only [boxFacts, and_true] at F))
 by_cases c5 : a0.f0.toList = a1.f0.toList
 · replace H := zpos c5 H
   have c5a := beq_iff_eq.mpr c5
   have c5b := bne_eq_false_iff_eq.mpr c5
   clear c5
   (try simp only [c5a, c5b, decide_true, decide_false, Bool.not_true, Bool.not_false])
   by_cases c6 : a0.f1 = a1.f1
   · replace H := zpos c6 H
     have c6a := beq_iff_eq.mpr c6
     have c6b := bne_eq_false_iff_eq.mpr c6
     clear c6
     by_cases c7 : a0.f2 = a1.f2
     · replace H := zpos c7 H
       have c7a := beq_iff_eq.mpr c7
       have c7b := bne_eq_false_iff_eq.mpr c7
       clear c7
       by_cases c8 : a0.f3 = a1.f3
       · replace H := zpos c8 H
         have c8a := beq_iff_eq.mpr c8
         have c8b := bne_eq_false_iff_eq.mpr c8
         clear c8
         by_cases c9 : a0.f4 = a1.f4
         · replace H := zpos c9 H
           have c9a := beq_iff_eq.mpr c9
           have c9b := bne_eq_false_iff_eq.mpr c9
           clear c9
           by_cases c10 : a0.f5 = a1.f5
           · replace H := zpos c10 H
             have c10a := beq_iff_eq.mpr c10
             have c10b := bne_eq_false_iff_eq.mpr c10
             clear c10
             obtain ⟨t11, ht11, H⟩ := zbind H
             go_upto_if 40 with (first | ((with_reducible refine gate_dst (N := 39) rfl ?_); refine ev_call rfl Try.func69 (by kernel_rfl) rfl #[.slice Ap0 a0.f6.length cp0, .slice Ap1 a1.f6.length cp1] rfl (by simp only [List.map_toArray, List.map_cons, List.map_nil]; rfl) ?_; refine (laws_eqAnswerS.calls ht11.out (HS.ro gp0) lp0 (HS.ro gp1) lp1).mono ?_; rintro _ wt11 ⟨rfl, HQ⟩; refine ⟨_, rfl, ?_⟩; replace HS := HS.call HQ; clear HQ; (try clear F); replace HS : Hp noFP w _ [.box g2 [.string a0.f0, .int .i64 a0.f1, .int .i64 a0.f2, .int .i64 a0.f3, .int .i64 a0.f4, .int .i64 a0.f5, .slice Ap0 a0.f6.length cp0, .string a0.f7] 49, .box g3 [.string a1.f0, .int .i64 a1.f1, .int .i64 a1.f2, .int .i64 a1.f3, .int .i64 a1.f4, .int .i64 a1.f5, .slice Ap1 a1.f6.length cp1, .string a1.f7] 49] := HS; have F := HS.boxes; simp only [boxFacts, and_true] at F))
             by_cases c13 : t11 = true
             · replace H := zpos c13 H
               (try simp only [c13, decide_true, decide_false, Bool.not_true, Bool.not_false])
               by_cases c14 : a0.f7.toList = a1.f7.toList
               · replace H := zpos c14 H
                 have c14a := beq_iff_eq.mpr c14
                 have c14b := bne_eq_false_iff_eq.mpr c14
                 clear c14
                 obtain rfl := zsome H
                 go_wp2
                 go_ret
                 exact ⟨rfl, HS.pick [] (by decide) (by rfl)⟩
               · replace H := zneg c14 H
                 have c14a := beq_eq_false_iff_ne.mpr c14
                 have c14b := bne_iff_ne.mpr c14
                 clear c14
                 obtain rfl := zsome H
                 go_wp2
                 go_ret
                 exact ⟨rfl, HS.pick [] (by decide) (by rfl)⟩
             · replace H := zneg c13 H
               replace c13 := eq_false_of_ne_true c13
               (try simp only [c13, decide_true, decide_false, Bool.not_true, Bool.not_false])
               obtain rfl := zsome H
               go_wp2
               go_ret
               exact ⟨rfl, HS.pick [] (by decide) (by rfl)⟩
           · replace H := zneg c10 H
             have c10a := beq_eq_false_iff_ne.mpr c10
             have c10b := bne_iff_ne.mpr c10
             clear c10
             obtain rfl := zsome H
             go_wp2
             go_ret
             exact ⟨rfl, HS.pick [] (by decide) (by rfl)⟩
         · replace H := zneg c9 H
           have c9a := beq_eq_false_iff_ne.mpr c9
           have c9b := bne_iff_ne.mpr c9
           clear c9
           obtain rfl := zsome H
           go_wp2
           go_ret
           exact ⟨rfl, HS.pick [] (by decide) (by rfl)⟩
       · replace H := zneg c8 H
         have c8a := beq_eq_false_iff_ne.mpr c8
         have c8b := bne_iff_ne.mpr c8
         clear c8
         obtain rfl := zsome H
         go_wp2
         go_ret
         exact ⟨rfl, HS.pick [] (by decide) (by rfl)⟩
     · replace H := zneg c7 H
       have c7a := beq_eq_false_iff_ne.mpr c7
       have c7b := bne_iff_ne.mpr c7
       clear c7
       obtain rfl := zsome H
       go_wp2
       go_ret
       exact ⟨rfl, HS.pick [] (by decide) (by rfl)⟩
   · replace H := zneg c6 H
     have c6a := beq_eq_false_iff_ne.mpr c6
     have c6b := bne_iff_ne.mpr c6
     clear c6
     obtain rfl := zsome H
     go_wp2
     go_ret
     exact ⟨rfl, HS.pick [] (by decide) (by rfl)⟩
 · replace H := zneg c5 H
   have c5a := beq_eq_false_iff_ne.mpr c5
   have c5b := bne_iff_ne.mpr c5
   clear c5
   (try simp only [c5a, c5b, decide_true, decide_false, Bool.not_true, Bool.not_false])
   obtain rfl := zsome H
   go_wp2
   go_ret
   exact ⟨rfl, HS.pick [] (by decide) (by rfl)⟩
/-! ### spec_l01In: function 101 -/
def spec_l01In.f (a0 : Int) (a1 : Int) (a2 : Int) : Option (Bool) := (if a1 ≤ a0 then (some (decide (a0 ≤ a2))) else (some false))
set_option maxHeartbeats 16000000 in
theorem spec_l01In.calls {a0 : Int} {a1 : Int} {a2 : Int} {r : Bool} {w : World} (h : spec_l01In.f a0 a1 a2 = some r) :
    Calls Try.prog 101 #[.int .i64 a0, .int .i64 a1, .int .i64 a2] w (fun e w' => e = .returned (.bool r) ∧ Hp noFP w w' []) := by
 have HS := Hp.start w
 have H := Aside0.mk h
 clear h
 unfold spec_l01In.f at H
 go_enter Try.func101, Try.ntmps101
 by_cases c1 : a1 ≤ a0
 · replace H := zpos c1 H
   replace c1 := eq_true c1
   obtain rfl := zsome H
   go_wp2
   go_ret
   exact ⟨rfl, HS.pick [] (by decide) (by rfl)⟩
 · replace H := zneg c1 H
   replace c1 := eq_false c1
   obtain rfl := zsome H
   go_wp2
   go_ret
   exact ⟨rfl, HS.pick [] (by decide) (by rfl)⟩
/-! ### spec_l07Plain: function 177 -/
def spec_l07Plain.l0 : Nat → Int → S107 → Option (Bool)
  | 0, _, _ => none
  | k + 1, x24, a0 => (if x24 < (a0.f1.size : Int) then (if 0 ≤ x24 then (if x24 < (a0.f1.size : Int) then (if (bt a0.f1 x24) < 32 then (some false) else (if 126 < (bt a0.f1 x24) then (some false) else (spec_l07Plain.l0 k (wrap64 (x24 + 1)) a0))) else none) else none) else (some true))
def spec_l07Plain.f (k : Nat) (a0 : S107) : Option (Bool) := (if a0.f0 = 1 then (if a0.f1.toList = ([0] : List UInt8) then (some true) else (some (a0.f1.toList == ([255] : List UInt8)))) else (if a0.f0 = 2 then ((spec_l01In.f (a0.f1.size : Int) 1 5).bind fun t6 => (if t6 = true then (if 0 < (a0.f1.size : Int) then (if 128 ≤ (bt a0.f1 0) then (some false) else (if (bt a0.f1 0) = 0 then (if (a0.f1.size : Int) = 1 then (some true) else (if 1 < (a0.f1.size : Int) then (some (decide (128 ≤ (bt a0.f1 1)))) else none)) else (some true))) else none) else (some false))) else (if a0.f0 = 12 then (spec_l07Plain.l0 k 0 a0) else (some (a0.f0 == 4)))))
set_option maxHeartbeats 16000000 in
theorem spec_l07Plain.calls {k : Nat} {a0 : S107} {Ap0 : Option Addr} {np0 cp0 : Nat} {r : Bool} {w : World} (h : spec_l07Plain.f k a0 = some r) (gp0 : k107.C w Ap0 np0 a0.f2) (lp0 : np0 ≤ cp0) :
    Calls Try.prog 177 #[.agg #[.int .i64 a0.f0, .string a0.f1, .slice Ap0 np0 cp0]] w (fun e w' => e = .returned (.bool r) ∧ Hp noFP w w' []) := by
 obtain rfl := C_len gp0
 have HS := Hp.start w
 have H := Aside0.mk h
 clear h
 unfold spec_l07Plain.f at H
 go_enter Try.func177, Try.ntmps177
 go_upto_if 6 with (first | ((with_reducible refine gate_dst (N := 1) rfl ?_); refine ev_box rfl HS (by first | (go_simp; done) | (go_simp; rfl)) rfl ?_; clear HS; (try clear F); intro g1 w1 HS; replace HS : Hp noFP w _ [.box g1 [.int .i64 a0.f0, .string a0.f1, .slice Ap0 a0.f2.length cp0] 107] := HS; have F := HS.boxes; simp only [boxFacts, and_true] at F))
 by_cases c3 : a0.f0 = 1
 · replace H := zpos c3 H
   have c3a := beq_iff_eq.mpr c3
   have c3b := bne_eq_false_iff_eq.mpr c3
   clear c3
   (try simp only [c3a, c3b, decide_true, decide_false, Bool.not_true, Bool.not_false])
   by_cases c4 : a0.f1.toList = ([0] : List UInt8)
   · replace H := zpos c4 H
     have c4a := beq_iff_eq.mpr c4
     have c4b := bne_eq_false_iff_eq.mpr c4
     clear c4
     obtain rfl := zsome H
     go_wp2
     go_ret
     exact ⟨rfl, HS.pick [] (by decide) (by rfl)⟩
   · replace H := zneg c4 H
     have c4a := beq_eq_false_iff_ne.mpr c4
     have c4b := bne_iff_ne.mpr c4
     clear c4
     obtain rfl := zsome H
     go_wp2
     go_ret
     exact ⟨rfl, HS.pick [] (by decide) (by rfl)⟩
 · replace H := zneg c3 H
   have c3a := beq_eq_false_iff_ne.mpr c3
   have c3b := bne_iff_ne.mpr c3
   clear c3
   (try simp only [c3a, c3b, decide_true, decide_false, Bool.not_true, Bool.not_false])
   by_cases c5 : a0.f0 = 2
   · replace H := zpos c5 H
     have c5a := beq_iff_eq.mpr c5
     have c5b := bne_eq_false_iff_eq.mpr c5
     clear c5
     obtain ⟨t6, ht6, H⟩ := zbind H
     by_cases c8 : t6 = true
     · replace H := zpos c8 H
       by_cases c9 : 0 < (a0.f1.size : Int)
       case neg => exact zno c9 H
       replace H := zpos c9 H
       replace c9 := eq_true c9
       have c9n : (0 < a0.f1.size) = True := eq_true (by have := of_eq_true c9; omega)
       go_upto_if 28 with (first | ((with_reducible refine gate_dst (N := 21) rfl ?_); refine ev_call rfl Try.func101 (by kernel_rfl) rfl #[.int .i64 (a0.f1.size : Int), .int .i64 1, .int .i64 5] rfl (by simp only [List.map_toArray, List.map_cons, List.map_nil]; rfl) ?_; refine (spec_l01In.calls ht6.out).mono ?_; rintro _ wt6 ⟨rfl, HQ⟩; refine ⟨_, rfl, ?_⟩; replace HS := HS.call HQ; clear HQ; (try clear F); replace HS : Hp noFP w _ [.box g1 [.int .i64 a0.f0, .string a0.f1, .slice Ap0 a0.f2.length cp0] 107] := HS; have F := HS.boxes; simp only [boxFacts, and_true] at F; (try simp only [c8]); have hx10 : ∀ h : 0 < a0.f1.size, ((a0.f1[0]'h).toNat : Int) = bt a0.f1 0 := bt_at a0.f1 0; have hz11 : 0 < a0.f1.size := (by have := of_eq_true c9; omega)))
       by_cases c12 : 128 ≤ (bt a0.f1 0)
       · replace H := zpos c12 H
         replace c12 := eq_true c12
         (try simp only [c12, decide_true, decide_false, Bool.not_true, Bool.not_false])
         obtain rfl := zsome H
         go_wp2
         go_ret
         exact ⟨rfl, HS.pick [] (by decide) (by rfl)⟩
       · replace H := zneg c12 H
         replace c12 := eq_false c12
         (try simp only [c12, decide_true, decide_false, Bool.not_true, Bool.not_false])
         have hx13 : ∀ h : 0 < a0.f1.size, ((a0.f1[0]'h).toNat : Int) = bt a0.f1 0 := bt_at a0.f1 0
         have hz14 : 0 < a0.f1.size := (by have := of_eq_true c9; omega)
         by_cases c15 : (bt a0.f1 0) = 0
         · replace H := zpos c15 H
           have c15a := beq_iff_eq.mpr c15
           have c15b := bne_eq_false_iff_eq.mpr c15
           clear c15
           by_cases c16 : (a0.f1.size : Int) = 1
           · replace H := zpos c16 H
             have c16a := beq_iff_eq.mpr c16
             have c16b := bne_eq_false_iff_eq.mpr c16
             clear c16
             obtain rfl := zsome H
             go_wp2
             go_ret
             exact ⟨rfl, HS.pick [] (by decide) (by rfl)⟩
           · replace H := zneg c16 H
             have c16a := beq_eq_false_iff_ne.mpr c16
             have c16b := bne_iff_ne.mpr c16
             clear c16
             by_cases c17 : 1 < (a0.f1.size : Int)
             case neg => exact zno c17 H
             replace H := zpos c17 H
             replace c17 := eq_true c17
             have c17n : (1 < a0.f1.size) = True := eq_true (by have := of_eq_true c17; omega)
             have hx18 : ∀ h : 1 < a0.f1.size, ((a0.f1[1]'h).toNat : Int) = bt a0.f1 1 := bt_at a0.f1 1
             have hz19 : 1 < a0.f1.size := (by have := of_eq_true c17; omega)
             obtain rfl := zsome H
             go_wp2
             go_ret
             exact ⟨rfl, HS.pick [] (by decide) (by rfl)⟩
         · replace H := zneg c15 H
           have c15a := beq_eq_false_iff_ne.mpr c15
           have c15b := bne_iff_ne.mpr c15
           clear c15
           obtain rfl := zsome H
           go_wp2
           go_ret
           exact ⟨rfl, HS.pick [] (by decide) (by rfl)⟩
     · replace H := zneg c8 H
       replace c8 := eq_false_of_ne_true c8
       obtain rfl := zsome H
       go_wp2_with (first | ((with_reducible refine gate_dst (N := 21) rfl ?_); refine ev_call rfl Try.func101 (by kernel_rfl) rfl #[.int .i64 (a0.f1.size : Int), .int .i64 1, .int .i64 5] rfl (by simp only [List.map_toArray, List.map_cons, List.map_nil]; rfl) ?_; refine (spec_l01In.calls ht6.out).mono ?_; rintro _ wt6 ⟨rfl, HQ⟩; refine ⟨_, rfl, ?_⟩; replace HS := HS.call HQ; clear HQ; (try clear F); replace HS : Hp noFP w _ [.box g1 [.int .i64 a0.f0, .string a0.f1, .slice Ap0 a0.f2.length cp0] 107] := HS; have F := HS.boxes; simp only [boxFacts, and_true] at F; (try simp only [c8])))
       go_ret
       exact ⟨rfl, HS.pick [] (by decide) (by rfl)⟩
   · replace H := zneg c5 H
     have c5a := beq_eq_false_iff_ne.mpr c5
     have c5b := bne_iff_ne.mpr c5
     clear c5
     by_cases c20 : a0.f0 = 12
     · replace H := zpos c20 H
       have c20a := beq_iff_eq.mpr c20
       have c20b := bne_eq_false_iff_eq.mpr c20
       clear c20
       go_wp2
       go_loopg [3] k (fun kq v_3 w' => ∃ (x24 : Int), v_3 = .int .i64 x24 ∧ Aside0 (spec_l07Plain.l0 kq x24 a0 = some r) ∧ Aside0 (kq ≤ k) ∧ Hp noFP w w' [.box g1 [.int .i64 a0.f0, .string a0.f1, .slice Ap0 a0.f2.length cp0] 107])
       case atStart => exact ⟨_, rfl, H, ⟨Nat.le_refl _⟩, HS⟩
       case round =>
        clear HS H; (try clear F)
        obtain ⟨x24, rfl, H, HKk23, HS⟩ := hrel
        have F := HS.boxes; simp only [boxFacts, and_true] at F
        cases gk with
        | zero => exact absurd H.out (by simp [spec_l07Plain.l0])
        | succ k23 =>
         simp only [spec_l07Plain.l0] at H
         by_cases c26 : x24 < (a0.f1.size : Int)
         · replace H := zpos c26 H
           replace c26 := eq_true c26
           by_cases c27 : 0 ≤ x24
           case neg => exact zno c27 H
           replace H := zpos c27 H
           replace c27 := eq_true c27
           by_cases c28 : x24 < (a0.f1.size : Int)
           case neg => exact zno c28 H
           replace H := zpos c28 H
           replace c28 := eq_true c28
           have hx29 := bt_at a0.f1 x24
           by_cases c30 : (bt a0.f1 x24) < 32
           · replace H := zpos c30 H
             replace c30 := eq_true c30
             obtain rfl := zsome H
             go_wp2
             go_ret
             exact ⟨rfl, HS.pick [] (by decide) (by rfl)⟩
           · replace H := zneg c30 H
             replace c30 := eq_false c30
             have hx31 := bt_at a0.f1 x24
             by_cases c32 : 126 < (bt a0.f1 x24)
             · replace H := zpos c32 H
               replace c32 := eq_true c32
               obtain rfl := zsome H
               go_wp2
               go_ret
               exact ⟨rfl, HS.pick [] (by decide) (by rfl)⟩
             · replace H := zneg c32 H
               replace c32 := eq_false c32
               go_wp2
               go_roundg k23
               case measure => have := HKk23.out; omega
               case rel => exact ⟨_, rfl, H, ⟨by have := HKk23.out; omega⟩, HS.pick [0] (by decide) (by rfl)⟩
         · replace H := zneg c26 H
           replace c26 := eq_false c26
           obtain rfl := zsome H
           go_wp2
           go_ret
           exact ⟨rfl, HS.pick [] (by decide) (by rfl)⟩
     · replace H := zneg c20 H
       have c20a := beq_eq_false_iff_ne.mpr c20
       have c20b := bne_iff_ne.mpr c20
       clear c20
       obtain rfl := zsome H
       go_wp2
       go_ret
       exact ⟨rfl, HS.pick [] (by decide) (by rfl)⟩
/-! ### spec_l07Right: function 163 -/
mutual
def spec_l07Right.l0 : Nat → Int → S107 → Int → Option (Bool)
  | 0, _, _, _ => none
  | k + 1, x10, a0, a1 => (if x10 < (a0.f2.length : Int) then (if 0 ≤ x10 then (if x10 < (a0.f2.length : Int) then ((spec_l07Right.f k (rd_T107 a0.f2 x10) (wrap64 (a1 + 1))).bind fun t16 => (if t16 = true then (spec_l07Right.l0 k (wrap64 (x10 + 1)) a0 a1) else (some false))) else none) else none) else (some true))
def spec_l07Right.f : Nat → S107 → Int → Option (Bool)
  | 0, _, _ => none
  | k + 1, a0, a1 => (if a0.f0 = 48 then (if a0.f1.toList = ([] : List UInt8) then (if 40 < (a0.f2.length : Int) then (some false) else (if 6 ≤ a1 then (some false) else (spec_l07Right.l0 k 0 a0 a1))) else (some false)) else (if (a0.f2.length : Int) = 0 then ((spec_l07Plain.f k a0).bind fun t20 => (some t20)) else (some false)))
end
set_option maxHeartbeats 16000000 in
theorem spec_l07Right.calls_ (K : Nat) : ∀ {k : Nat} (hK : k ≤ K) {a0 : S107} {a1 : Int} {Ap0 : Option Addr} {np0 cp0 : Nat} {r : Bool} {w : World} (h : spec_l07Right.f k a0 a1 = some r) (gp0 : k107.C w Ap0 np0 a0.f2) (lp0 : np0 ≤ cp0),
    Calls Try.prog 163 #[.agg #[.int .i64 a0.f0, .string a0.f1, .slice Ap0 np0 cp0], .int .i64 a1] w (fun e w' => e = .returned (.bool r) ∧ Hp noFP w w' []) := by
  induction K with
  | zero =>
    intro k hK a0 a1 Ap0 np0 cp0 r w h gp0 lp0
    obtain rfl : k = 0 := by omega
    exact absurd h (by simp [spec_l07Right.f])
  | succ K IH =>
    intro k hK a0 a1 Ap0 np0 cp0 r w h gp0 lp0
    cases k with
    | zero => exact absurd h (by simp [spec_l07Right.f])
    | succ k =>
    have HK0 : Aside0 (k ≤ K) := ⟨by omega⟩
    clear hK
    obtain rfl := C_len gp0
    have HS := Hp.start w
    have H := Aside0.mk h
    clear h
    simp only [spec_l07Right.f] at H
    go_enter Try.func163, Try.ntmps163
    go_upto_if 8 with (first | ((with_reducible refine gate_dst (N := 2) rfl ?_); refine ev_box rfl HS (by first | (go_simp; done) | (go_simp; rfl)) rfl ?_; clear HS; (try clear F); intro g2 w2 HS; replace HS : Hp noFP w _ [.box g2 [.int .i64 a0.f0, .string a0.f1, .slice Ap0 a0.f2.length cp0] 107] := HS; have F := HS.boxes; simp only [boxFacts, and_true] at F))
    by_cases c3 : a0.f0 = 48
    · replace H := zpos c3 H
      have c3a := beq_iff_eq.mpr c3
      have c3b := bne_eq_false_iff_eq.mpr c3
      clear c3
      (try simp only [c3a, c3b, decide_true, decide_false, Bool.not_true, Bool.not_false])
      by_cases c4 : a0.f1.toList = ([] : List UInt8)
      · replace H := zpos c4 H
        have c4a := beq_iff_eq.mpr c4
        have c4b := bne_eq_false_iff_eq.mpr c4
        clear c4
        by_cases c5 : 40 < (a0.f2.length : Int)
        · replace H := zpos c5 H
          replace c5 := eq_true c5
          obtain rfl := zsome H
          go_wp2
          go_ret
          exact ⟨rfl, HS.pick [] (by decide) (by rfl)⟩
        · replace H := zneg c5 H
          replace c5 := eq_false c5
          by_cases c6 : 6 ≤ a1
          · replace H := zpos c6 H
            replace c6 := eq_true c6
            obtain rfl := zsome H
            go_wp2
            go_ret
            exact ⟨rfl, HS.pick [] (by decide) (by rfl)⟩
          · replace H := zneg c6 H
            replace c6 := eq_false c6
            go_wp2
            go_loopg [5] k (fun kq v_5 w' => ∃ (x10 : Int), v_5 = .int .i64 x10 ∧ Aside0 (spec_l07Right.l0 kq x10 a0 a1 = some r) ∧ Aside0 (kq ≤ k) ∧ Hp noFP w w' [.box g2 [.int .i64 a0.f0, .string a0.f1, .slice Ap0 a0.f2.length cp0] 107])
            case atStart => exact ⟨_, rfl, H, ⟨Nat.le_refl _⟩, HS⟩
            case round =>
             clear HS H; (try clear F)
             obtain ⟨x10, rfl, H, HKk9, HS⟩ := hrel
             have F := HS.boxes; simp only [boxFacts, and_true] at F
             cases gk with
             | zero => exact absurd H.out (by simp [spec_l07Right.l0])
             | succ k9 =>
              simp only [spec_l07Right.l0] at H
              by_cases c12 : x10 < (a0.f2.length : Int)
              · replace H := zpos c12 H
                replace c12 := eq_true c12
                by_cases c13 : 0 ≤ x10
                case neg => exact zno c13 H
                replace H := zpos c13 H
                replace c13 := eq_true c13
                by_cases c14 : x10 < (a0.f2.length : Int)
                case neg => exact zno c14 H
                replace H := zpos c14 H
                replace c14 := eq_true c14
                obtain ⟨ad15, B15_2, d15_2, rfl, e15_0, e15_1, e15_2, m15_2, y15_2⟩ := at_T107 gp0 x10 (of_eq_true c13) (of_eq_true c14)
                have e15_0_15 := HS.keepc e15_0
                have e15_1_15 := HS.keepc e15_1
                have e15_2_15 := HS.keepc e15_2
                obtain ⟨t16, ht16, H⟩ := zbind H
                go_upto_if 45 with (first | ((with_reducible refine gate_dst (N := 44) rfl ?_); refine ev_call rfl Try.func163 (by kernel_rfl) rfl #[.agg #[.int .i64 ((rd_T107 a0.f2 x10).f0), .string ((rd_T107 a0.f2 x10).f1), .slice B15_2 (rd_T107 a0.f2 x10).f2.length d15_2], .int .i64 (wrap64 (a1 + 1))] rfl (by simp only [List.map_toArray, List.map_cons, List.map_nil]; rfl) ?_; refine (IH (by have := HK0.out; have := HKk9.out; omega) ht16.out (HS.ro y15_2) m15_2).mono ?_; rintro _ wt16 ⟨rfl, HQ⟩; refine ⟨_, rfl, ?_⟩; replace HS := HS.call HQ; clear HQ; (try clear F); replace HS : Hp noFP w _ [.box g2 [.int .i64 a0.f0, .string a0.f1, .slice (some ad15) a0.f2.length cp0] 107] := HS; have F := HS.boxes; simp only [boxFacts, and_true] at F))
                by_cases c18 : t16 = true
                · replace H := zpos c18 H
                  (try simp only [c18, decide_true, decide_false, Bool.not_true, Bool.not_false])
                  go_wp2
                  go_roundg k9
                  case measure => have := HK0.out; have := HKk9.out; omega
                  case rel => exact ⟨_, rfl, H, ⟨by have := HK0.out; have := HKk9.out; omega⟩, HS.pick [0] (by decide) (by rfl)⟩
                · replace H := zneg c18 H
                  replace c18 := eq_false_of_ne_true c18
                  (try simp only [c18, decide_true, decide_false, Bool.not_true, Bool.not_false])
                  obtain rfl := zsome H
                  go_wp2
                  go_ret
                  exact ⟨rfl, HS.pick [] (by decide) (by rfl)⟩
              · replace H := zneg c12 H
                replace c12 := eq_false c12
                obtain rfl := zsome H
                go_wp2
                go_ret
                exact ⟨rfl, HS.pick [] (by decide) (by rfl)⟩
      · replace H := zneg c4 H
        have c4a := beq_eq_false_iff_ne.mpr c4
        have c4b := bne_iff_ne.mpr c4
        clear c4
        obtain rfl := zsome H
        go_wp2
        go_ret
        exact ⟨rfl, HS.pick [] (by decide) (by rfl)⟩
    · replace H := zneg c3 H
      have c3a := beq_eq_false_iff_ne.mpr c3
      have c3b := bne_iff_ne.mpr c3
      clear c3
      (try simp only [c3a, c3b, decide_true, decide_false, Bool.not_true, Bool.not_false])
      by_cases c19 : (a0.f2.length : Int) = 0
      · replace H := zpos c19 H
        have c19a := beq_iff_eq.mpr c19
        have c19b := bne_eq_false_iff_eq.mpr c19
        clear c19
        obtain ⟨t20, ht20, H⟩ := zbind H
        obtain rfl := zsome H
        go_wp2_with (first | ((with_reducible refine gate_dst (N := 15) rfl ?_); refine gate_guard (by rfl) ?_; refine ev_call rfl Try.func177 (by kernel_rfl) rfl #[.agg #[.int .i64 a0.f0, .string a0.f1, .slice Ap0 a0.f2.length cp0]] rfl (by simp only [List.map_toArray, List.map_cons, List.map_nil]; rfl) ?_; refine (spec_l07Plain.calls ht20.out (HS.ro gp0) lp0).mono ?_; rintro _ wt20 ⟨rfl, HQ⟩; refine ⟨_, rfl, ?_⟩; replace HS := HS.call HQ; clear HQ; (try clear F); replace HS : Hp noFP w _ [.box g2 [.int .i64 a0.f0, .string a0.f1, .slice Ap0 a0.f2.length cp0] 107] := HS; have F := HS.boxes; simp only [boxFacts, and_true] at F))
        go_ret
        exact ⟨rfl, HS.pick [] (by decide) (by rfl)⟩
      · replace H := zneg c19 H
        have c19a := beq_eq_false_iff_ne.mpr c19
        have c19b := bne_iff_ne.mpr c19
        clear c19
        obtain rfl := zsome H
        go_wp2
        go_ret
        exact ⟨rfl, HS.pick [] (by decide) (by rfl)⟩
theorem spec_l07Right.calls {k : Nat} {a0 : S107} {a1 : Int} {Ap0 : Option Addr} {np0 cp0 : Nat} {r : Bool} {w : World} (h : spec_l07Right.f k a0 a1 = some r) (gp0 : k107.C w Ap0 np0 a0.f2) (lp0 : np0 ≤ cp0) :
    Calls Try.prog 163 #[.agg #[.int .i64 a0.f0, .string a0.f1, .slice Ap0 np0 cp0], .int .i64 a1] w (fun e w' => e = .returned (.bool r) ∧ Hp noFP w w' []) := spec_l07Right.calls_ k (Nat.le_refl k) h gp0 lp0
/-! ### spec_ItemOk: function 119 -/
def spec_ItemOk.f (k : Nat) (a0 : S107) : Option (Bool) := ((spec_l07Right.f k a0 0).bind fun t3 => (some t3))
set_option maxHeartbeats 16000000 in
theorem spec_ItemOk.calls {k : Nat} {a0 : S107} {Ap0 : Option Addr} {np0 cp0 : Nat} {r : Bool} {w : World} (h : spec_ItemOk.f k a0 = some r) (gp0 : k107.C w Ap0 np0 a0.f2) (lp0 : np0 ≤ cp0) :
    Calls Try.prog 119 #[.agg #[.int .i64 a0.f0, .string a0.f1, .slice Ap0 np0 cp0]] w (fun e w' => e = .returned (.bool r) ∧ Hp noFP w w' []) := by
 obtain rfl := C_len gp0
 have HS := Hp.start w
 have H := Aside0.mk h
 clear h
 unfold spec_ItemOk.f at H
 go_enter Try.func119, Try.ntmps119
 obtain ⟨t3, ht3, H⟩ := zbind H
 obtain rfl := zsome H
 go_wp2_with (first | ((with_reducible refine gate_dst (N := 1) rfl ?_); refine ev_box rfl HS (by first | (go_simp; done) | (go_simp; rfl)) rfl ?_; clear HS; (try clear F); intro g1 w1 HS; replace HS : Hp noFP w _ [.box g1 [.int .i64 a0.f0, .string a0.f1, .slice Ap0 a0.f2.length cp0] 107] := HS; have F := HS.boxes; simp only [boxFacts, and_true] at F) | ((with_reducible refine gate_dst (N := 4) rfl ?_); refine ev_call rfl Try.func163 (by kernel_rfl) rfl #[.agg #[.int .i64 a0.f0, .string a0.f1, .slice Ap0 a0.f2.length cp0], .int .i64 0] rfl (by simp only [List.map_toArray, List.map_cons, List.map_nil]; rfl) ?_; refine (spec_l07Right.calls ht3.out (HS.ro gp0) lp0).mono ?_; rintro _ wt3 ⟨rfl, HQ⟩; refine ⟨_, rfl, ?_⟩; replace HS := HS.call HQ; clear HQ; (try clear F); replace HS : Hp noFP w _ [.box g1 [.int .i64 a0.f0, .string a0.f1, .slice Ap0 a0.f2.length cp0] 107] := HS; have F := HS.boxes; simp only [boxFacts, and_true] at F))
 go_ret
 exact ⟨rfl, HS.pick [] (by decide) (by rfl)⟩
/-! ### spec_l07Length: function 164 -/
def spec_l07Length.l0 : Nat → Int → ByteArray → Option (ByteArray)
  | 0, _, _ => none
  | k + 1, x13, x14 => (if 0 < x13 then (if (strOfNums ([((Int.tmod x13 256) % 256)] : List Int)).size + x14.size ≤ 9223372036854775807 then (spec_l07Length.l0 k (wrap64 (Int.tdiv x13 256)) ((strOfNums ([((Int.tmod x13 256) % 256)] : List Int)) ++ x14)) else none) else (if (strOfNums ([((wrap64 (128 + (x14.size : Int))) % 256)] : List Int)).size + x14.size ≤ 9223372036854775807 then (some ((strOfNums ([((wrap64 (128 + (x14.size : Int))) % 256)] : List Int)) ++ x14)) else none))
def spec_l07Length.f (k : Nat) (a0 : Int) : Option (ByteArray) := (if a0 < 128 then (some (strOfNums ([(a0 % 256)] : List Int))) else (spec_l07Length.l0 k a0 (⟨#[]⟩ : ByteArray)))
set_option maxHeartbeats 16000000 in
theorem spec_l07Length.calls {k : Nat} {a0 : Int} {r : ByteArray} {w : World} (h : spec_l07Length.f k a0 = some r) :
    Calls Try.prog 164 #[.int .i64 a0] w (fun e w' => e = .returned (.string r) ∧ Hp noFP w w' []) := by
 have HS := Hp.start w
 have H := Aside0.mk h
 clear h
 unfold spec_l07Length.f at H
 go_enter Try.func164, Try.ntmps164
 by_cases c1 : a0 < 128
 · replace H := zpos c1 H
   replace c1 := eq_true c1
   obtain rfl := zsome H
   go_wp2_with (first | ((with_reducible refine gate_dst (N := 8) rfl ?_); refine ev_lit rfl (Zd.int .u8) [] ([(a0 % 256)] : List Int) ([.int .u8 (a0 % 256)] ++ []) HS (by first | (go_simp; done) | (go_simp; rfl)) rfl rfl (Nat.le_of_ble_eq_true rfl) (MadeL.cons (js1 := []) (c := [.int .u8 (a0 % 256)]) rfl (made_flat (fun _ => rfl)) MadeL.nil (by decide)) ?_; clear HS; (try clear F); intro v2 w2 HS; obtain ⟨B2, d2, rfl, m2⟩ := HS.formn 1 0 rfl rfl; replace HS : Hp noFP w _ [.own (Zd.slice 5 (Zd.int .u8)) ([(a0 % 256)] : List Int) [.slice B2 1 d2]] := HS) | ((with_reducible refine gate_dst (N := 9) rfl ?_); refine ev_val rfl (run_str rfl rfl Try.underlying162 Try.underlying5 Try.underlying9 (HS.rd 0 rfl)) ?_))
   go_ret
   exact ⟨rfl, HS.pick [] (by decide) (by rfl)⟩
 · replace H := zneg c1 H
   replace c1 := eq_false c1
   go_wp2
   go_loopg [0, 3] k (fun kq v_0 v_3 w' => ∃ (x13 : Int) (x14 : ByteArray), v_0 = .int .i64 x13 ∧ v_3 = .string x14 ∧ Aside0 (spec_l07Length.l0 kq x13 x14 = some r) ∧ Aside0 (kq ≤ k) ∧ Hp noFP w w' [])
   case atStart => exact ⟨_, _, rfl, rfl, H, ⟨Nat.le_refl _⟩, HS⟩
   case round =>
    clear HS H; (try clear F)
    obtain ⟨x13, x14, rfl, rfl, H, HKk12, HS⟩ := hrel
    cases gk with
    | zero => exact absurd H.out (by simp [spec_l07Length.l0])
    | succ k12 =>
     simp only [spec_l07Length.l0] at H
     by_cases c16 : 0 < x13
     · replace H := zpos c16 H
       replace c16 := eq_true c16
       by_cases c19 : (strOfNums ([((Int.tmod x13 256) % 256)] : List Int)).size + x14.size ≤ 9223372036854775807
       case neg => exact zno c19 H
       replace H := zpos c19 H
       replace c19 := eq_true c19
       go_wp2_with (first | ((with_reducible refine gate_dst (N := 15) rfl ?_); refine ev_lit rfl (Zd.int .u8) [] ([((Int.tmod x13 256) % 256)] : List Int) ([.int .u8 ((Int.tmod x13 256) % 256)] ++ []) HS (by first | (go_simp; done) | (go_simp; rfl)) rfl rfl (Nat.le_of_ble_eq_true rfl) (MadeL.cons (js1 := []) (c := [.int .u8 ((Int.tmod x13 256) % 256)]) rfl (made_flat (fun _ => rfl)) MadeL.nil (by decide)) ?_; clear HS; (try clear F); intro v17 w17 HS; obtain ⟨B17, d17, rfl, m17⟩ := HS.formn 1 0 rfl rfl; replace HS : Hp noFP w _ [.own (Zd.slice 5 (Zd.int .u8)) ([((Int.tmod x13 256) % 256)] : List Int) [.slice B17 1 d17]] := HS) | ((with_reducible refine gate_dst (N := 16) rfl ?_); refine ev_val rfl (run_str rfl rfl Try.underlying162 Try.underlying5 Try.underlying9 (HS.rd 0 rfl)) ?_) | ((with_reducible refine gate_dst (N := 18) rfl ?_); refine ev_val rfl (run_cat rfl rfl rfl (of_eq_true c19)) ?_))
       go_roundg k12
       case measure => have := HKk12.out; omega
       case rel => exact ⟨_, _, rfl, rfl, H, ⟨by have := HKk12.out; omega⟩, HS.pick [] (by decide) (by rfl)⟩
     · replace H := zneg c16 H
       replace c16 := eq_false c16
       by_cases c22 : (strOfNums ([((wrap64 (128 + (x14.size : Int))) % 256)] : List Int)).size + x14.size ≤ 9223372036854775807
       case neg => exact zno c22 H
       replace H := zpos c22 H
       replace c22 := eq_true c22
       obtain rfl := zsome H
       go_wp2_with (first | ((with_reducible refine gate_dst (N := 25) rfl ?_); refine ev_lit rfl (Zd.int .u8) [] ([((wrap64 (128 + (x14.size : Int))) % 256)] : List Int) ([.int .u8 ((wrap64 (128 + (x14.size : Int))) % 256)] ++ []) HS (by first | (go_simp; done) | (go_simp; rfl)) rfl rfl (Nat.le_of_ble_eq_true rfl) (MadeL.cons (js1 := []) (c := [.int .u8 ((wrap64 (128 + (x14.size : Int))) % 256)]) rfl (made_flat (fun _ => rfl)) MadeL.nil (by decide)) ?_; clear HS; (try clear F); intro v20 w20 HS; obtain ⟨B20, d20, rfl, m20⟩ := HS.formn 1 0 rfl rfl; replace HS : Hp noFP w _ [.own (Zd.slice 5 (Zd.int .u8)) ([((wrap64 (128 + (x14.size : Int))) % 256)] : List Int) [.slice B20 1 d20]] := HS) | ((with_reducible refine gate_dst (N := 26) rfl ?_); refine ev_val rfl (run_str rfl rfl Try.underlying162 Try.underlying5 Try.underlying9 (HS.rd 0 rfl)) ?_) | ((with_reducible refine gate_dst (N := 28) rfl ?_); refine ev_val rfl (run_cat rfl rfl rfl (of_eq_true c22)) ?_))
       go_ret
       exact ⟨rfl, HS.pick [] (by decide) (by rfl)⟩
end Go.Proofs.Ytdcjcanobiohnaa.F
