import Derived.Test.YtfeebnbookfpmaaZT
namespace Go.Proofs.Ytfeebnbookfpmaa.F
open Go.RowKit Go.Proofs.YtfeebnbookfpmaaW.PrintWords Go.Proofs.YtfeebnbookfpmaaW.PrintLast Go.Proofs.YtfeebnbookfpmaaW.PrintMore Go.Proofs.Ytfeebnbookfpmaa.Z
attribute [local go_sem] max2_int min2_int max_two min_two max_three min_three max_four min_four
set_option linter.unusedVariables false
set_option linter.unusedSimpArgs false
set_option maxRecDepth 100000
/-! ### impl_textsOk_1: function 123 -/
def impl_textsOk_1.f (a0 : ByteArray) : Option (Bool) := (some (decide (400 < (a0.size : Int))))
set_option maxHeartbeats 2000000 in
theorem impl_textsOk_1.calls {a0 : ByteArray} {r : Bool} {w : World} (h : impl_textsOk_1.f a0 = some r) :
    Calls Try.prog 123 #[.string a0] w (fun e w' => e = .returned (.bool r) ∧ Hp noFP w w' []) := by
 have HS := Hp.start w
 have H := Aside0.mk h
 clear h
 unfold impl_textsOk_1.f at H
 go_enter Try.func123, Try.ntmps123
 obtain rfl := zsome H
 go_wp2
 go_ret
 exact ⟨rfl, HS.pick [] (by decide) (by rfl)⟩
end Go.Proofs.Ytfeebnbookfpmaa.F
