import Derived.Test.YtfeebnbookfpmaaZT
import Derived.Test.YtfeebnbookfpmaaZf29
namespace Go.Proofs.Ytfeebnbookfpmaa.F
open Go.RowKit Go.Proofs.YtfeebnbookfpmaaW.PrintWords Go.Proofs.YtfeebnbookfpmaaW.PrintLast Go.Proofs.YtfeebnbookfpmaaW.PrintMore Go.Proofs.Ytfeebnbookfpmaa.Z
attribute [local go_sem] max2_int min2_int max_two min_two max_three min_three max_four min_four
set_option linter.unusedVariables false
set_option linter.unusedSimpArgs false
set_option maxRecDepth 100000
/-! ### laws_szCrlS: function 49 -/
def laws_szCrlS.l0 : Nat → Int → Int → (List S49) → Option (Int)
  | 0, _, _, _ => none
  | k + 1, x12, x13, a0 => (if x13 < (a0.length : Int) then (if 0 ≤ x13 then (if x13 < (a0.length : Int) then ((laws_szCrl.f (rd_T49 a0 x13) x12).bind fun t19 => (if t19 < 0 then (some (-1)) else (laws_szCrlS.l0 k t19 (wrap64 (x13 + 1)) a0))) else none) else none) else (some x12))
def laws_szCrlS.f (k : Nat) (a0 : (List S49)) (a1 : Int) : Option (Int) := (if (wrap64 (a1 - (a0.length : Int))) < 0 then (some (-1)) else (laws_szCrlS.l0 k (wrap64 (a1 - (a0.length : Int))) 0 a0))
set_option maxHeartbeats 16000000 in
theorem laws_szCrlS.calls {k : Nat} {a0 : (List S49)} {a1 : Int} {Ap0 : Option Addr} {np0 cp0 : Nat} {r : Int} {w : World} (h : laws_szCrlS.f k a0 a1 = some r) (gp0 : k49.C w Ap0 np0 a0) (lp0 : np0 ≤ cp0) :
    Calls Try.prog 49 #[.slice Ap0 np0 cp0, .int .i64 a1] w (fun e w' => e = .returned (.int .i64 r) ∧ Hp noFP w w' []) := by
 obtain rfl := C_len gp0
 have HS := Hp.start w
 have H := Aside0.mk h
 clear h
 unfold laws_szCrlS.f at H
 go_enter Try.func49, Try.ntmps49
 by_cases c1 : (wrap64 (a1 - (a0.length : Int))) < 0
 · replace H := zpos c1 H
   replace c1 := eq_true c1
   obtain rfl := zsome H
   go_wp2
   go_ret
   exact ⟨rfl, HS.pick [] (by decide) (by rfl)⟩
 · replace H := zneg c1 H
   replace c1 := eq_false c1
   go_wp2
   go_loopg [1, 5] k (fun kq v_1 v_5 w' => ∃ (x12 : Int) (x13 : Int), v_1 = .int .i64 x12 ∧ v_5 = .int .i64 x13 ∧ Aside0 (laws_szCrlS.l0 kq x12 x13 a0 = some r) ∧ Aside0 (kq ≤ k) ∧ Hp noFP w w' [])
   case atStart => exact ⟨_, _, rfl, rfl, H, ⟨Nat.le_refl _⟩, HS⟩
   case round =>
    clear HS H; (try clear F)
    obtain ⟨x12, x13, rfl, rfl, H, HKk11, HS⟩ := hrel
    cases gk with
    | zero => exact absurd H.out (by simp [laws_szCrlS.l0])
    | succ k11 =>
     simp only [laws_szCrlS.l0] at H
     by_cases c15 : x13 < (a0.length : Int)
     · replace H := zpos c15 H
       replace c15 := eq_true c15
       by_cases c16 : 0 ≤ x13
       case neg => exact zno c16 H
       replace H := zpos c16 H
       replace c16 := eq_true c16
       by_cases c17 : x13 < (a0.length : Int)
       case neg => exact zno c17 H
       replace H := zpos c17 H
       replace c17 := eq_true c17
       obtain ⟨ad18, B18_5, d18_5, rfl, e18_0, e18_1, e18_2, e18_3, e18_4, e18_5, e18_6, m18_5, y18_5⟩ := at_T49 gp0 x13 (of_eq_true c16) (of_eq_true c17)
       replace e18_0 := HS.keepc e18_0
       replace e18_1 := HS.keepc e18_1
       replace e18_2 := HS.keepc e18_2
       replace e18_3 := HS.keepc e18_3
       replace e18_4 := HS.keepc e18_4
       replace e18_5 := HS.keepc e18_5
       replace e18_6 := HS.keepc e18_6
       obtain ⟨t19, ht19, H⟩ := zbind H
       go_upto_if 25 with (first | ((with_reducible refine gate_dst (N := 23) rfl ?_); refine ev_call rfl Try.func29 (by kernel_rfl) rfl #[.agg #[.string ((rd_T49 a0 x13).f0), .int .i64 ((rd_T49 a0 x13).f1), .int .i64 ((rd_T49 a0 x13).f2), .int .i64 ((rd_T49 a0 x13).f3), .int .i64 ((rd_T49 a0 x13).f4), .slice B18_5 (rd_T49 a0 x13).f5.length d18_5, .string ((rd_T49 a0 x13).f6)], .int .i64 x12] rfl (by simp only [List.map_toArray, List.map_cons, List.map_nil]; rfl) ?_; refine (laws_szCrl.calls ht19.out (HS.ro y18_5) m18_5).mono ?_; rintro _ wt19 ⟨rfl, HQ⟩; refine ⟨_, rfl, ?_⟩; replace HS := HS.call HQ; clear HQ; (try clear F)))
       by_cases c21 : t19 < 0
       · replace H := zpos c21 H
         replace c21 := eq_true c21
         (try simp only [c21, decide_true, decide_false, Bool.not_true, Bool.not_false])
         obtain rfl := zsome H
         go_wp2
         go_ret
         exact ⟨rfl, HS.pick [] (by decide) (by rfl)⟩
       · replace H := zneg c21 H
         replace c21 := eq_false c21
         (try simp only [c21, decide_true, decide_false, Bool.not_true, Bool.not_false])
         go_wp2
         go_roundg k11
         case measure => have := HKk11.out; omega
         case rel => exact ⟨_, _, rfl, rfl, H, ⟨by have := HKk11.out; omega⟩, HS.pick [] (by decide) (by rfl)⟩
     · replace H := zneg c15 H
       replace c15 := eq_false c15
       obtain rfl := zsome H
       go_wp2
       go_ret
       exact ⟨rfl, HS.pick [] (by decide) (by rfl)⟩
end Go.Proofs.Ytfeebnbookfpmaa.F
