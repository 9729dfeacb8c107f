import Derived.Test.YtfeebnbookfpmaaZT
import Derived.Test.YtfeebnbookfpmaaZf73
namespace Go.Proofs.Ytfeebnbookfpmaa.F
open Go.RowKit Go.Proofs.YtfeebnbookfpmaaW.PrintWords Go.Proofs.YtfeebnbookfpmaaW.PrintLast Go.Proofs.YtfeebnbookfpmaaW.PrintMore Go.Proofs.Ytfeebnbookfpmaa.Z
attribute [local go_sem] max2_int min2_int max_two min_two max_three min_three max_four min_four
set_option linter.unusedVariables false
set_option linter.unusedSimpArgs false
set_option maxRecDepth 100000
/-! ### impl_timeOk: function 78 -/
def impl_timeOk.f (a0 : Int) : Option (Bool) := ((impl_within.f a0 0 9999).bind fun t1 => (some t1))
set_option maxHeartbeats 2000000 in
theorem impl_timeOk.calls {a0 : Int} {r : Bool} {w : World} (h : impl_timeOk.f a0 = some r) :
    Calls Try.prog 78 #[.int .i64 a0] w (fun e w' => e = .returned (.bool r) ∧ Hp noFP w w' []) := by
 have HS := Hp.start w
 have H := Aside0.mk h
 clear h
 unfold impl_timeOk.f at H
 go_enter Try.func78, Try.ntmps78
 obtain ⟨t1, ht1, H⟩ := zbind H
 obtain rfl := zsome H
 go_wp2_with (first | ((with_reducible refine gate_dst (N := 4) rfl ?_); refine ev_call rfl Try.func73 (by kernel_rfl) rfl #[.int .i64 a0, .int .i64 0, .int .i64 9999] rfl (by simp only [List.map_toArray, List.map_cons, List.map_nil]; rfl) ?_; refine (impl_within.calls ht1.out).mono ?_; rintro _ wt1 ⟨rfl, HQ⟩; refine ⟨_, rfl, ?_⟩; replace HS := HS.call HQ; clear HQ; (try clear F)))
 go_ret
 exact ⟨rfl, HS.pick [] (by decide) (by rfl)⟩
end Go.Proofs.Ytfeebnbookfpmaa.F
