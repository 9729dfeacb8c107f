import Derived.Test.YtfeebnbookfpmaaZT
import Derived.Test.YtfeebnbookfpmaaZf92
namespace Go.Proofs.Ytfeebnbookfpmaa.F
open Go.RowKit Go.Proofs.YtfeebnbookfpmaaW.PrintWords Go.Proofs.YtfeebnbookfpmaaW.PrintLast Go.Proofs.YtfeebnbookfpmaaW.PrintMore Go.Proofs.Ytfeebnbookfpmaa.Z
attribute [local go_sem] max2_int min2_int max_two min_two max_three min_three max_four min_four
set_option linter.unusedVariables false
set_option linter.unusedSimpArgs false
set_option maxRecDepth 100000
/-! ### laws_toAnswerS: function 41 -/
def laws_toAnswerS.l0 : Nat → (List S127) → Int → (List S126) → Option ((List S127))
  | 0, _, _, _ => none
  | k + 1, l22, x24, a0 => (if x24 < (a0.length : Int) then (if 0 ≤ x24 then (if x24 < (a0.length : Int) then ((laws_toAnswer.f k (rd_T126 a0 x24)).bind fun t30 => (laws_toAnswerS.l0 k (l22.set (x24).toNat t30) (wrap64 (x24 + 1)) a0)) else none) else none) else (some l22))
def laws_toAnswerS.f (k : Nat) (a0 : (List S126)) : Option ((List S127)) := (if 0 ≤ (a0.length : Int) then (if ((a0.length : Int)).toNat ≤ 4398046511104 then (laws_toAnswerS.l0 k (List.replicate a0.length z127) 0 a0) else none) else none)
set_option maxHeartbeats 2000000 in
theorem laws_toAnswerS.calls {k : Nat} {a0 : (List S126)} {Ap0 : Option Addr} {np0 cp0 : Nat} {r : (List S127)} {w : World} (h : laws_toAnswerS.f k a0 = some r) (gp0 : k126.C w Ap0 np0 a0) (lp0 : np0 ≤ cp0) :
    Calls Try.prog 41 #[.slice Ap0 np0 cp0] w (fun e w' => ∃ v0_ : Value, e = .returned (v0_) ∧ Hp noFP w w' [.own (Zd.slice 127 q127) r [v0_]]) := by
 obtain rfl := C_len gp0
 have HS := Hp.start w
 have H := Aside0.mk h
 clear h
 unfold laws_toAnswerS.f at H
 go_enter Try.func41, Try.ntmps41
 by_cases c1 : 0 ≤ (a0.length : Int)
 case neg => exact zno c1 H
 replace H := zpos c1 H
 replace c1 := eq_true c1
 by_cases c2 : ((a0.length : Int)).toNat ≤ 4398046511104
 case neg => exact zno c2 H
 replace H := zpos c2 H
 replace c2 := eq_true c2
 go_wp2_with (first | ((with_reducible refine gate_dst (N := 7) rfl ?_); refine ev_make rfl q127 z127 HS rfl (a0.length : Int) rfl rfl Try.underlying68 info127 rfl (by decide) (by decide) q127_zero (of_eq_true c1) (by have := of_eq_true c2; omega) ?_; clear HS; (try clear F); intro v3 w3 HS; obtain ⟨B3, d3, rfl, m3⟩ := HS.formn a0.length 0 rfl (by first | rfl | simp)))
 go_loopg [4] k (fun kq v_4 w' => ∃ (l22 : List S127) (x24 : Int), v_4 = .int .i64 x24 ∧ Aside0 (laws_toAnswerS.l0 kq l22 x24 a0 = some r) ∧ Aside0 (kq ≤ k) ∧ Hp noFP w w' [.own (Zd.slice 127 q127) l22 [.slice B3 a0.length d3]])
 case atStart => exact ⟨_, _, rfl, H, ⟨Nat.le_refl _⟩, HS⟩
 case round =>
  clear HS H; (try clear F)
  obtain ⟨l22, x24, rfl, H, HKk21, HS⟩ := hrel
  cases gk with
  | zero => exact absurd H.out (by simp [laws_toAnswerS.l0])
  | succ k21 =>
   simp only [laws_toAnswerS.l0] at H
   by_cases c26 : x24 < (a0.length : Int)
   · replace H := zpos c26 H
     replace c26 := eq_true c26
     by_cases c27 : 0 ≤ x24
     case neg => exact zno c27 H
     replace H := zpos c27 H
     replace c27 := eq_true c27
     by_cases c28 : x24 < (a0.length : Int)
     case neg => exact zno c28 H
     replace H := zpos c28 H
     replace c28 := eq_true c28
     obtain ⟨ad29, B29_2, d29_2, B29_3, d29_3, rfl, e29_0, e29_1, e29_2, e29_3, m29_2, y29_2, m29_3, y29_3⟩ := at_T126 gp0 x24 (of_eq_true c27) (of_eq_true c28)
     replace e29_0 := HS.keepc e29_0
     replace e29_1 := HS.keepc e29_1
     replace e29_2 := HS.keepc e29_2
     replace e29_3 := HS.keepc e29_3
     obtain ⟨t30, ht30, H⟩ := zbind H
     go_wp2_with (first | ((with_reducible refine gate_dst (N := 20) rfl ?_); refine ev_call rfl Try.func92 (by kernel_rfl) rfl #[.agg #[.int .i64 ((rd_T126 a0 x24).f0), .int .i64 ((rd_T126 a0 x24).f1), .slice B29_2 (rd_T126 a0 x24).f2.length d29_2, .slice B29_3 (rd_T126 a0 x24).f3.length d29_3]] rfl (by simp only [List.map_toArray, List.map_cons, List.map_nil]; rfl) ?_; refine (laws_toAnswer.calls ht30.out (HS.ro y29_2) m29_2 (HS.ro y29_3) m29_3).mono ?_; rintro _ wt30 ⟨v31, v32, rfl, HQ⟩; refine ⟨_, rfl, ?_⟩; replace HS := HS.call HQ; clear HQ; (try clear F); obtain ⟨B31, d31, rfl, m31⟩ := HS.form 1 rfl; obtain ⟨B32, d32, rfl, m32⟩ := HS.form 2 rfl; obtain ⟨ad34, B34_2, d34_2, B34_3, d34_3, rfl, e34_0, e34_1, e34_2, e34_3, m34_2, y34_2, m34_3, y34_3⟩ := at_T127 (HS.rd 0 rfl) x24 (of_eq_true c27) (of_eq_true c28)) | ((with_reducible refine gate_store (p := 21) rfl ?_); refine ev_set rfl q127 0 [1, 2] x24 t30 HS (seg := [.int .i64 t30.f0, .int .i64 t30.f1, .slice B31 t30.f2.length d31, .slice B32 t30.f3.length d32]) rfl (by decide) rfl rfl rfl (by first | rfl | exact (Nat.mul_one _).symm) rfl rfl (by kernel_rfl) (by simp [Value.oneCell']) ⟨of_eq_true c27, of_eq_true c28⟩ rfl (fun S hd hh => q127_pack hd (hh 1 _ rfl) (hh 2 _ rfl) (by decide)) ?_; clear HS; (try clear F); intro w35 HS))
     go_roundg k21
     case measure => have := HKk21.out; omega
     case rel => exact ⟨_, _, rfl, H, ⟨by have := HKk21.out; omega⟩, HS.pick [0] (by decide) (by rfl)⟩
   · replace H := zneg c26 H
     replace c26 := eq_false c26
     obtain rfl := zsome H
     go_wp2
     exact bodyPost_ret (results_single rfl (.tmp .nil)) rfl ⟨_, rfl, HS.pick [0] (by decide) (by rfl)⟩
end Go.Proofs.Ytfeebnbookfpmaa.F
