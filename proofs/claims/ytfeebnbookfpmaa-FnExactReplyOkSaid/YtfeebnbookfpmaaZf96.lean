import Derived.Test.YtfeebnbookfpmaaZT
namespace Go.Proofs.Ytfeebnbookfpmaa.F
open Go.RowKit Go.Proofs.YtfeebnbookfpmaaW.PrintWords Go.Proofs.YtfeebnbookfpmaaW.PrintLast Go.Proofs.YtfeebnbookfpmaaW.PrintMore Go.Proofs.Ytfeebnbookfpmaa.Z
attribute [local go_sem] max2_int min2_int max_two min_two max_three min_three max_four min_four
set_option linter.unusedVariables false
set_option linter.unusedSimpArgs false
set_option maxRecDepth 100000
/-! ### spec_l15Texts: function 96 -/
def spec_l15Texts.l0 : Nat → Int → (List ByteArray) → Int → Option (Bool)
  | 0, _, _, _ => none
  | k + 1, x4, a0, a1 => (if x4 < (a0.length : Int) then (if 0 ≤ x4 then (if x4 < (a0.length : Int) then (if 400 < ((rdOf ByteArray.empty a0 x4).size : Int) then (some false) else (spec_l15Texts.l0 k (wrap64 (x4 + 1)) a0 a1)) else none) else none) else (some (decide ((a0.length : Int) ≤ a1))))
def spec_l15Texts.f (k : Nat) (a0 : (List ByteArray)) (a1 : Int) : Option (Bool) := (spec_l15Texts.l0 k 0 a0 a1)
set_option maxHeartbeats 2000000 in
theorem spec_l15Texts.calls {k : Nat} {a0 : (List ByteArray)} {a1 : Int} {Ap0 : Option Addr} {np0 cp0 : Nat} {r : Bool} {w : World} (h : spec_l15Texts.f k a0 a1 = some r) (gp0 : Kd.string.C w Ap0 np0 a0) (lp0 : np0 ≤ cp0) :
    Calls Try.prog 96 #[.slice Ap0 np0 cp0, .int .i64 a1] w (fun e w' => e = .returned (.bool r) ∧ Hp noFP w w' []) := by
 obtain rfl := C_len gp0
 have HS := Hp.start w
 have H := Aside0.mk h
 clear h
 unfold spec_l15Texts.f at H
 go_enter Try.func96, Try.ntmps96
 go_wp2
 go_loopg [5] k (fun kq v_5 w' => ∃ (x4 : Int), v_5 = .int .i64 x4 ∧ Aside0 (spec_l15Texts.l0 kq x4 a0 a1 = some r) ∧ Aside0 (kq ≤ k) ∧ Hp noFP w w' [])
 case atStart => exact ⟨_, rfl, H, ⟨Nat.le_refl _⟩, HS⟩
 case round =>
  clear HS H; (try clear F)
  obtain ⟨x4, rfl, H, HKk3, HS⟩ := hrel
  cases gk with
  | zero => exact absurd H.out (by simp [spec_l15Texts.l0])
  | succ k3 =>
   simp only [spec_l15Texts.l0] at H
   by_cases c6 : x4 < (a0.length : Int)
   · replace H := zpos c6 H
     replace c6 := eq_true c6
     by_cases c7 : 0 ≤ x4
     case neg => exact zno c7 H
     replace H := zpos c7 H
     replace c7 := eq_true c7
     by_cases c8 : x4 < (a0.length : Int)
     case neg => exact zno c8 H
     replace H := zpos c8 H
     replace c8 := eq_true c8
     obtain ⟨ad9, rfl, e9_0⟩ := Kd.at_string gp0 x4 (of_eq_true c7) (of_eq_true c8)
     replace e9_0 := HS.keepc e9_0
     by_cases c10 : 400 < ((rdOf ByteArray.empty a0 x4).size : Int)
     · replace H := zpos c10 H
       replace c10 := eq_true c10
       obtain rfl := zsome H
       go_wp2
       go_ret
       exact ⟨rfl, HS.pick [] (by decide) (by rfl)⟩
     · replace H := zneg c10 H
       replace c10 := eq_false c10
       go_wp2
       go_roundg k3
       case measure => have := HKk3.out; omega
       case rel => exact ⟨_, rfl, H, ⟨by have := HKk3.out; omega⟩, HS.pick [] (by decide) (by rfl)⟩
   · replace H := zneg c6 H
     replace c6 := eq_false c6
     obtain rfl := zsome H
     go_wp2
     go_ret
     exact ⟨rfl, HS.pick [] (by decide) (by rfl)⟩
end Go.Proofs.Ytfeebnbookfpmaa.F
