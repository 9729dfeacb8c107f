import Derived.Test.YtfeebnbookfpmaaZT
import Derived.Test.YtfeebnbookfpmaaZf127s0
namespace Go.Proofs.Ytfeebnbookfpmaa.F
open Go.RowKit Go.Proofs.YtfeebnbookfpmaaW.PrintWords Go.Proofs.YtfeebnbookfpmaaW.PrintLast Go.Proofs.YtfeebnbookfpmaaW.PrintMore Go.Proofs.Ytfeebnbookfpmaa.Z
attribute [local go_sem] max2_int min2_int max_two min_two max_three min_three max_four min_four
set_option linter.unusedVariables false
set_option linter.unusedSimpArgs false
set_option maxRecDepth 100000
/-! ### impl_Answer_97_0: function 97 -/
def impl_Answer_97_0.f (k : Nat) (a0 : (List S127)) : Option (Bool) := ((impl_Answer_127_0.f k a0).bind fun t1 => (some (decide (0 ≤ t1))))
set_option maxHeartbeats 2000000 in
theorem impl_Answer_97_0.calls {k : Nat} {a0 : (List S127)} {Ap0 : Option Addr} {np0 cp0 : Nat} {r : Bool} {w : World} (h : impl_Answer_97_0.f k a0 = some r) (gp0 : k127.C w Ap0 np0 a0) (lp0 : np0 ≤ cp0) :
    Calls Try.prog 97 #[.slice Ap0 np0 cp0, .func (.func 98) #[] #[]] w (fun e w' => e = .returned (.bool r) ∧ Hp noFP w w' []) := by
 obtain rfl := C_len gp0
 have HS := Hp.start w
 have H := Aside0.mk h
 clear h
 unfold impl_Answer_97_0.f at H
 go_enter Try.func97, Try.ntmps97
 obtain ⟨t1, ht1, H⟩ := zbind H
 obtain rfl := zsome H
 go_wp2_with (first | ((with_reducible refine gate_dst (N := 7) rfl ?_); refine ev_call rfl Try.func127 (by kernel_rfl) rfl #[.slice Ap0 a0.length cp0, .func (.func 98) #[] #[]] rfl (by simp only [List.map_toArray, List.map_cons, List.map_nil]; rfl) ?_; refine (impl_Answer_127_0.calls ht1.out (HS.ro gp0) lp0).mono ?_; rintro _ wt1 ⟨rfl, HQ⟩; refine ⟨_, rfl, ?_⟩; replace HS := HS.call HQ; clear HQ; (try clear F)))
 go_ret
 exact ⟨rfl, HS.pick [] (by decide) (by rfl)⟩
end Go.Proofs.Ytfeebnbookfpmaa.F
