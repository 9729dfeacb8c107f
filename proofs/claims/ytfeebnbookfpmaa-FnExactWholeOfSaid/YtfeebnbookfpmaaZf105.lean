import Derived.Test.YtfeebnbookfpmaaZT
namespace Go.Proofs.Ytfeebnbookfpmaa.F
open Go.RowKit Go.Proofs.YtfeebnbookfpmaaW.PrintWords Go.Proofs.YtfeebnbookfpmaaW.PrintLast Go.Proofs.YtfeebnbookfpmaaW.PrintMore Go.Proofs.Ytfeebnbookfpmaa.Z
attribute [local go_sem] max2_int min2_int max_two min_two max_three min_three max_four min_four
set_option linter.unusedVariables false
set_option linter.unusedSimpArgs false
set_option maxRecDepth 100000
/-! ### laws_heldRevS: function 105 -/
def laws_heldRevS.l0 : Nat → Int → Int → (List S119) → Option (Int)
  | 0, _, _, _ => none
  | k + 1, x11, x12, a0 => (if x12 < (a0.length : Int) then (if 0 ≤ x12 then (if x12 < (a0.length : Int) then (if (rd_T119 a0 x12).f0 = x11 then (if (rd_T119 a0 x12).f1 = (wrap64 (x11 + 1)) then (laws_heldRevS.l0 k (wrap64 ((wrap64 (x11 + 1)) + 1)) (wrap64 (x12 + 1)) a0) else (some (-1))) else (some (-1))) else none) else none) else (some x11))
def laws_heldRevS.f (k : Nat) (a0 : (List S119)) (a1 : Int) : Option (Int) := (laws_heldRevS.l0 k a1 0 a0)
set_option maxHeartbeats 16000000 in
theorem laws_heldRevS.calls {k : Nat} {a0 : (List S119)} {a1 : Int} {Ap0 : Option Addr} {np0 cp0 : Nat} {r : Int} {w : World} (h : laws_heldRevS.f k a0 a1 = some r) (gp0 : k119.C w Ap0 np0 a0) (lp0 : np0 ≤ cp0) :
    Calls Try.prog 105 #[.slice Ap0 np0 cp0, .int .i64 a1] w (fun e w' => e = .returned (.int .i64 r) ∧ Hp noFP w w' []) := by
 obtain rfl := C_len gp0
 have HS := Hp.start w
 have H := Aside0.mk h
 clear h
 unfold laws_heldRevS.f at H
 go_enter Try.func105, Try.ntmps105
 go_wp2
 go_loopg [1, 5] k (fun kq v_1 v_5 w' => ∃ (x11 : Int) (x12 : Int), v_1 = .int .i64 x11 ∧ v_5 = .int .i64 x12 ∧ Aside0 (laws_heldRevS.l0 kq x11 x12 a0 = some r) ∧ Aside0 (kq ≤ k) ∧ Hp noFP w w' [])
 case atStart => exact ⟨_, _, rfl, rfl, H, ⟨Nat.le_refl _⟩, HS⟩
 case round =>
  clear HS H; (try clear F)
  obtain ⟨x11, x12, rfl, rfl, H, HKk10, HS⟩ := hrel
  cases gk with
  | zero => exact absurd H.out (by simp [laws_heldRevS.l0])
  | succ k10 =>
   simp only [laws_heldRevS.l0] at H
   by_cases c14 : x12 < (a0.length : Int)
   · replace H := zpos c14 H
     replace c14 := eq_true c14
     by_cases c15 : 0 ≤ x12
     case neg => exact zno c15 H
     replace H := zpos c15 H
     replace c15 := eq_true c15
     by_cases c16 : x12 < (a0.length : Int)
     case neg => exact zno c16 H
     replace H := zpos c16 H
     replace c16 := eq_true c16
     obtain ⟨ad17, rfl, e17_0, e17_1⟩ := at_T119 gp0 x12 (of_eq_true c15) (of_eq_true c16)
     replace e17_0 := HS.keepc e17_0
     replace e17_1 := HS.keepc e17_1
     by_cases c18 : (rd_T119 a0 x12).f0 = x11
     · replace H := zpos c18 H
       have c18a := beq_iff_eq.mpr c18
       have c18b := bne_eq_false_iff_eq.mpr c18
       clear c18
       obtain ⟨ad19, hq19, e19_0, e19_1⟩ := at_T119 gp0 x12 (of_eq_true c15) (of_eq_true c16)
       obtain rfl := Option.some.inj hq19
       replace e19_0 := HS.keepc e19_0
       replace e19_1 := HS.keepc e19_1
       by_cases c20 : (rd_T119 a0 x12).f1 = (wrap64 (x11 + 1))
       · replace H := zpos c20 H
         have c20a := beq_iff_eq.mpr c20
         have c20b := bne_eq_false_iff_eq.mpr c20
         clear c20
         go_wp2
         go_roundg k10
         case measure => have := HKk10.out; omega
         case rel => exact ⟨_, _, rfl, rfl, H, ⟨by have := HKk10.out; omega⟩, HS.pick [] (by decide) (by rfl)⟩
       · replace H := zneg c20 H
         have c20a := beq_eq_false_iff_ne.mpr c20
         have c20b := bne_iff_ne.mpr c20
         clear c20
         obtain rfl := zsome H
         go_wp2
         go_ret
         exact ⟨rfl, HS.pick [] (by decide) (by rfl)⟩
     · replace H := zneg c18 H
       have c18a := beq_eq_false_iff_ne.mpr c18
       have c18b := bne_iff_ne.mpr c18
       clear c18
       obtain rfl := zsome H
       go_wp2
       go_ret
       exact ⟨rfl, HS.pick [] (by decide) (by rfl)⟩
   · replace H := zneg c14 H
     replace c14 := eq_false c14
     obtain rfl := zsome H
     go_wp2
     go_ret
     exact ⟨rfl, HS.pick [] (by decide) (by rfl)⟩
end Go.Proofs.Ytfeebnbookfpmaa.F
