import Derived.Test.YtfeebnbookfpmaaZT
import Derived.Test.YtfeebnbookfpmaaZf123
namespace Go.Proofs.Ytfeebnbookfpmaa.F
open Go.RowKit Go.Proofs.YtfeebnbookfpmaaW.PrintWords Go.Proofs.YtfeebnbookfpmaaW.PrintLast Go.Proofs.YtfeebnbookfpmaaW.PrintMore Go.Proofs.Ytfeebnbookfpmaa.Z
attribute [local go_sem] max2_int min2_int max_two min_two max_three min_three max_four min_four
set_option linter.unusedVariables false
set_option linter.unusedSimpArgs false
set_option maxRecDepth 100000
/-! ### slices_IndexFunc_string_string_0: function 140 -/
def slices_IndexFunc_string_string_0.l0 : Nat → Int → (List ByteArray) → Option (Int)
  | 0, _, _ => none
  | k + 1, x4, a0 => (if x4 < (a0.length : Int) then (if 0 ≤ x4 then (if x4 < (a0.length : Int) then ((impl_textsOk_1.f (rdOf ByteArray.empty a0 x4)).bind fun t10 => (if t10 = true then (some x4) else (slices_IndexFunc_string_string_0.l0 k (wrap64 (x4 + 1)) a0))) else none) else none) else (some (-1)))
def slices_IndexFunc_string_string_0.f (k : Nat) (a0 : (List ByteArray)) : Option (Int) := (slices_IndexFunc_string_string_0.l0 k 0 a0)
set_option maxHeartbeats 2000000 in
theorem slices_IndexFunc_string_string_0.calls {k : Nat} {a0 : (List ByteArray)} {Ap0 : Option Addr} {np0 cp0 : Nat} {r : Int} {w : World} (h : slices_IndexFunc_string_string_0.f k a0 = some r) (gp0 : Kd.string.C w Ap0 np0 a0) (lp0 : np0 ≤ cp0) :
    Calls Try.prog 140 #[.slice Ap0 np0 cp0, .func (.func 123) #[] #[]] w (fun e w' => e = .returned (.int .i64 r) ∧ Hp noFP w w' []) := by
 obtain rfl := C_len gp0
 have HS := Hp.start w
 have H := Aside0.mk h
 clear h
 unfold slices_IndexFunc_string_string_0.f at H
 go_enter Try.func140, Try.ntmps140
 go_wp2
 go_loopg [8] k (fun kq v_8 w' => ∃ (x4 : Int), v_8 = .int .i64 x4 ∧ Aside0 (slices_IndexFunc_string_string_0.l0 kq x4 a0 = some r) ∧ Aside0 (kq ≤ k) ∧ Hp noFP w w' [])
 case atStart => exact ⟨_, rfl, H, ⟨Nat.le_refl _⟩, HS⟩
 case round =>
  clear HS H; (try clear F)
  obtain ⟨x4, rfl, H, HKk3, HS⟩ := hrel
  cases gk with
  | zero => exact absurd H.out (by simp [slices_IndexFunc_string_string_0.l0])
  | succ k3 =>
   simp only [slices_IndexFunc_string_string_0.l0] at H
   by_cases c6 : x4 < (a0.length : Int)
   · replace H := zpos c6 H
     replace c6 := eq_true c6
     by_cases c7 : 0 ≤ x4
     case neg => exact zno c7 H
     replace H := zpos c7 H
     replace c7 := eq_true c7
     by_cases c8 : x4 < (a0.length : Int)
     case neg => exact zno c8 H
     replace H := zpos c8 H
     replace c8 := eq_true c8
     obtain ⟨ad9, rfl, e9_0⟩ := Kd.at_string gp0 x4 (of_eq_true c7) (of_eq_true c8)
     replace e9_0 := HS.keepc e9_0
     obtain ⟨t10, ht10, H⟩ := zbind H
     go_upto_if 16 with (first | ((with_reducible refine gate_dst (N := 16) rfl ?_); refine ev_callv rfl Try.func123 (by kernel_rfl) rfl #[.string (rdOf ByteArray.empty a0 x4)] #[.string (rdOf ByteArray.empty a0 x4)] rfl rfl (by simp only [List.map_toArray, List.map_cons, List.map_nil]; rfl) (by first | rfl | simp) ?_; refine (impl_textsOk_1.calls ht10.out).mono ?_; rintro _ wt10 ⟨rfl, HQ⟩; refine ⟨_, rfl, ?_⟩; replace HS := HS.call HQ; clear HQ; (try clear F)))
     by_cases c12 : t10 = true
     · replace H := zpos c12 H
       (try simp only [c12, decide_true, decide_false, Bool.not_true, Bool.not_false])
       obtain rfl := zsome H
       go_wp2
       go_ret
       exact ⟨rfl, HS.pick [] (by decide) (by rfl)⟩
     · replace H := zneg c12 H
       replace c12 := eq_false_of_ne_true c12
       (try simp only [c12, decide_true, decide_false, Bool.not_true, Bool.not_false])
       go_wp2
       go_roundg k3
       case measure => have := HKk3.out; omega
       case rel => exact ⟨_, rfl, H, ⟨by have := HKk3.out; omega⟩, HS.pick [] (by decide) (by rfl)⟩
   · replace H := zneg c6 H
     replace c6 := eq_false c6
     obtain rfl := zsome H
     go_wp2
     go_ret
     exact ⟨rfl, HS.pick [] (by decide) (by rfl)⟩
end Go.Proofs.Ytfeebnbookfpmaa.F
