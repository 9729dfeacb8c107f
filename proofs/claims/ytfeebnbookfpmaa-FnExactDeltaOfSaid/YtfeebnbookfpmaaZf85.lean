import Derived.Test.YtfeebnbookfpmaaZT
namespace Go.Proofs.Ytfeebnbookfpmaa.F
open Go.RowKit Go.Proofs.YtfeebnbookfpmaaW.PrintWords Go.Proofs.YtfeebnbookfpmaaW.PrintLast Go.Proofs.YtfeebnbookfpmaaW.PrintMore Go.Proofs.Ytfeebnbookfpmaa.Z
attribute [local go_sem] max2_int min2_int max_two min_two max_three min_three max_four min_four
set_option linter.unusedVariables false
set_option linter.unusedSimpArgs false
set_option maxRecDepth 100000
/-! ### laws_szRevS: function 85 -/
def laws_szRevS.f (a0 : (List S152)) (a1 : Int) : Option (Int) := (if (wrap64 (a1 - (a0.length : Int))) < 0 then (some (-1)) else (some (wrap64 (a1 - (a0.length : Int)))))
set_option maxHeartbeats 16000000 in
theorem laws_szRevS.calls {a0 : (List S152)} {a1 : Int} {Ap0 : Option Addr} {np0 cp0 : Nat} {r : Int} {w : World} (h : laws_szRevS.f a0 a1 = some r) (gp0 : k152.C w Ap0 np0 a0) (lp0 : np0 ≤ cp0) :
    Calls Try.prog 85 #[.slice Ap0 np0 cp0, .int .i64 a1] w (fun e w' => e = .returned (.int .i64 r) ∧ Hp noFP w w' []) := by
 obtain rfl := C_len gp0
 have HS := Hp.start w
 have H := Aside0.mk h
 clear h
 unfold laws_szRevS.f at H
 go_enter Try.func85, Try.ntmps85
 by_cases c1 : (wrap64 (a1 - (a0.length : Int))) < 0
 · replace H := zpos c1 H
   replace c1 := eq_true c1
   obtain rfl := zsome H
   go_wp2
   go_ret
   exact ⟨rfl, HS.pick [] (by decide) (by rfl)⟩
 · replace H := zneg c1 H
   replace c1 := eq_false c1
   obtain rfl := zsome H
   go_wp2
   go_ret
   exact ⟨rfl, HS.pick [] (by decide) (by rfl)⟩
end Go.Proofs.Ytfeebnbookfpmaa.F
