import Derived.Test.YtfeebnbookfpmaaZT
import Derived.Test.YtfeebnbookfpmaaZf93s0
namespace Go.Proofs.Ytfeebnbookfpmaa.F
open Go.RowKit Go.Proofs.YtfeebnbookfpmaaW.PrintWords Go.Proofs.YtfeebnbookfpmaaW.PrintLast Go.Proofs.YtfeebnbookfpmaaW.PrintMore Go.Proofs.Ytfeebnbookfpmaa.Z
attribute [local go_sem] max2_int min2_int max_two min_two max_three min_three max_four min_four
set_option linter.unusedVariables false
set_option linter.unusedSimpArgs false
set_option maxRecDepth 100000
/-! ### impl_SameAnswers: function 42 -/
def impl_SameAnswers.f (k : Nat) (a0 : (List S127)) (a1 : (List S127)) : Option (Bool) := ((impl_Answer_93_0.f k a0 a1).bind fun t1 => (some t1))
set_option maxHeartbeats 2000000 in
theorem impl_SameAnswers.calls {k : Nat} {a0 : (List S127)} {a1 : (List S127)} {Ap0 : Option Addr} {np0 cp0 : Nat} {Ap1 : Option Addr} {np1 cp1 : Nat} {r : Bool} {w : World} (h : impl_SameAnswers.f k a0 a1 = some r) (gp0 : k127.C w Ap0 np0 a0) (lp0 : np0 ≤ cp0) (gp1 : k127.C w Ap1 np1 a1) (lp1 : np1 ≤ cp1) :
    Calls Try.prog 42 #[.slice Ap0 np0 cp0, .slice Ap1 np1 cp1] w (fun e w' => e = .returned (.bool r) ∧ Hp noFP w w' []) := by
 obtain rfl := C_len gp0
 obtain rfl := C_len gp1
 have HS := Hp.start w
 have H := Aside0.mk h
 clear h
 unfold impl_SameAnswers.f at H
 go_enter Try.func42, Try.ntmps42
 obtain ⟨t1, ht1, H⟩ := zbind H
 obtain rfl := zsome H
 go_wp2_with (first | ((with_reducible refine gate_dst (N := 7) rfl ?_); refine ev_call rfl Try.func93 (by kernel_rfl) rfl #[.slice Ap0 a0.length cp0, .slice Ap1 a1.length cp1, .func (.func 94) #[] #[]] rfl (by simp only [List.map_toArray, List.map_cons, List.map_nil]; rfl) ?_; refine (impl_Answer_93_0.calls ht1.out (HS.ro gp0) lp0 (HS.ro gp1) lp1).mono ?_; rintro _ wt1 ⟨rfl, HQ⟩; refine ⟨_, rfl, ?_⟩; replace HS := HS.call HQ; clear HQ; (try clear F)))
 go_ret
 exact ⟨rfl, HS.pick [] (by decide) (by rfl)⟩
end Go.Proofs.Ytfeebnbookfpmaa.F
