import Derived.Test.YtfeebnbookfpmaaZT
import Derived.Test.YtfeebnbookfpmaaZf61
namespace Go.Proofs.Ytfeebnbookfpmaa.F
open Go.RowKit Go.Proofs.YtfeebnbookfpmaaW.PrintWords Go.Proofs.YtfeebnbookfpmaaW.PrintLast Go.Proofs.YtfeebnbookfpmaaW.PrintMore Go.Proofs.Ytfeebnbookfpmaa.Z
attribute [local go_sem] max2_int min2_int max_two min_two max_three min_three max_four min_four
set_option linter.unusedVariables false
set_option linter.unusedSimpArgs false
set_option maxRecDepth 100000
/-! ### laws_toPlanS: function 36 -/
def laws_toPlanS.l0 : Nat → (List S96) → Int → (List S92) → Option ((List S96))
  | 0, _, _, _ => none
  | k + 1, l22, x24, a0 => (if x24 < (a0.length : Int) then (if 0 ≤ x24 then (if x24 < (a0.length : Int) then ((laws_toPlan.f k (rd_T92 a0 x24)).bind fun t30 => (laws_toPlanS.l0 k (l22.set (x24).toNat t30) (wrap64 (x24 + 1)) a0)) else none) else none) else (some l22))
def laws_toPlanS.f (k : Nat) (a0 : (List S92)) : Option ((List S96)) := (if 0 ≤ (a0.length : Int) then (if ((a0.length : Int)).toNat ≤ 3518437208883 then (laws_toPlanS.l0 k (List.replicate a0.length z96) 0 a0) else none) else none)
set_option maxHeartbeats 2000000 in
theorem laws_toPlanS.calls {k : Nat} {a0 : (List S92)} {Ap0 : Option Addr} {np0 cp0 : Nat} {r : (List S96)} {w : World} (h : laws_toPlanS.f k a0 = some r) (gp0 : k92.C w Ap0 np0 a0) (lp0 : np0 ≤ cp0) :
    Calls Try.prog 36 #[.slice Ap0 np0 cp0] w (fun e w' => ∃ v0_ : Value, e = .returned (v0_) ∧ Hp noFP w w' [.own (Zd.slice 96 q96) r [v0_]]) := by
 obtain rfl := C_len gp0
 have HS := Hp.start w
 have H := Aside0.mk h
 clear h
 unfold laws_toPlanS.f at H
 go_enter Try.func36, Try.ntmps36
 by_cases c1 : 0 ≤ (a0.length : Int)
 case neg => exact zno c1 H
 replace H := zpos c1 H
 replace c1 := eq_true c1
 by_cases c2 : ((a0.length : Int)).toNat ≤ 3518437208883
 case neg => exact zno c2 H
 replace H := zpos c2 H
 replace c2 := eq_true c2
 go_wp2_with (first | ((with_reducible refine gate_dst (N := 7) rfl ?_); refine ev_make rfl q96 z96 HS rfl (a0.length : Int) rfl rfl Try.underlying61 info96 rfl (by decide) (by decide) q96_zero (of_eq_true c1) (by have := of_eq_true c2; omega) ?_; clear HS; (try clear F); intro v3 w3 HS; obtain ⟨B3, d3, rfl, m3⟩ := HS.formn a0.length 0 rfl (by first | rfl | simp)))
 go_loopg [4] k (fun kq v_4 w' => ∃ (l22 : List S96) (x24 : Int), v_4 = .int .i64 x24 ∧ Aside0 (laws_toPlanS.l0 kq l22 x24 a0 = some r) ∧ Aside0 (kq ≤ k) ∧ Hp noFP w w' [.own (Zd.slice 96 q96) l22 [.slice B3 a0.length d3]])
 case atStart => exact ⟨_, _, rfl, H, ⟨Nat.le_refl _⟩, HS⟩
 case round =>
  clear HS H; (try clear F)
  obtain ⟨l22, x24, rfl, H, HKk21, HS⟩ := hrel
  cases gk with
  | zero => exact absurd H.out (by simp [laws_toPlanS.l0])
  | succ k21 =>
   simp only [laws_toPlanS.l0] at H
   by_cases c26 : x24 < (a0.length : Int)
   · replace H := zpos c26 H
     replace c26 := eq_true c26
     by_cases c27 : 0 ≤ x24
     case neg => exact zno c27 H
     replace H := zpos c27 H
     replace c27 := eq_true c27
     by_cases c28 : x24 < (a0.length : Int)
     case neg => exact zno c28 H
     replace H := zpos c28 H
     replace c28 := eq_true c28
     obtain ⟨ad29, B29_1, d29_1, B29_3, d29_3, rfl, e29_0, e29_1, e29_2, e29_3, e29_4, e29_5, e29_6, m29_1, y29_1, m29_3, y29_3⟩ := at_T92 gp0 x24 (of_eq_true c27) (of_eq_true c28)
     replace e29_0 := HS.keepc e29_0
     replace e29_1 := HS.keepc e29_1
     replace e29_2 := HS.keepc e29_2
     replace e29_3 := HS.keepc e29_3
     replace e29_4 := HS.keepc e29_4
     replace e29_5 := HS.keepc e29_5
     replace e29_6 := HS.keepc e29_6
     obtain ⟨t30, ht30, H⟩ := zbind H
     go_wp2_with (first | ((with_reducible refine gate_dst (N := 20) rfl ?_); refine ev_call rfl Try.func61 (by kernel_rfl) rfl #[.agg #[.int .i64 ((rd_T92 a0 x24).f0), .slice B29_1 (rd_T92 a0 x24).f1.length d29_1, .int .i64 ((rd_T92 a0 x24).f2.f0), .slice B29_3 (rd_T92 a0 x24).f2.f1.length d29_3, .bool ((rd_T92 a0 x24).f2.f2), .bool ((rd_T92 a0 x24).f2.f3), .int .i64 ((rd_T92 a0 x24).f2.f4)]] rfl (by simp only [List.map_toArray, List.map_cons, List.map_nil]; rfl) ?_; refine (laws_toPlan.calls ht30.out (HS.ro y29_1) m29_1 (HS.ro y29_3) m29_3).mono ?_; rintro _ wt30 ⟨v31, v32, rfl, HQ⟩; refine ⟨_, rfl, ?_⟩; replace HS := HS.call HQ; clear HQ; (try clear F); obtain ⟨B31, d31, rfl, m31⟩ := HS.form 1 rfl; obtain ⟨B32, d32, rfl, m32⟩ := HS.form 2 rfl; obtain ⟨ad34, B34_1, d34_1, B34_3, d34_3, rfl, e34_0, e34_1, e34_2, e34_3, e34_4, e34_5, e34_6, m34_1, y34_1, m34_3, y34_3⟩ := at_T96 (HS.rd 0 rfl) x24 (of_eq_true c27) (of_eq_true c28)) | ((with_reducible refine gate_store (p := 21) rfl ?_); refine ev_set rfl q96 0 [1, 2] x24 t30 HS (seg := [.int .i64 t30.f0, .slice B31 t30.f1.length d31, .int .i64 t30.f2.f0, .slice B32 t30.f2.f1.length d32, .bool t30.f2.f2, .bool t30.f2.f3, .int .i64 t30.f2.f4]) rfl (by decide) rfl rfl rfl (by first | rfl | exact (Nat.mul_one _).symm) rfl rfl (by kernel_rfl) (by simp [Value.oneCell']) ⟨of_eq_true c27, of_eq_true c28⟩ rfl (fun S hd hh => q96_pack hd (hh 1 _ rfl) (hh 2 _ rfl) (by decide)) ?_; clear HS; (try clear F); intro w35 HS))
     go_roundg k21
     case measure => have := HKk21.out; omega
     case rel => exact ⟨_, _, rfl, H, ⟨by have := HKk21.out; omega⟩, HS.pick [0] (by decide) (by rfl)⟩
   · replace H := zneg c26 H
     replace c26 := eq_false c26
     obtain rfl := zsome H
     go_wp2
     exact bodyPost_ret (results_single rfl (.tmp .nil)) rfl ⟨_, rfl, HS.pick [0] (by decide) (by rfl)⟩
end Go.Proofs.Ytfeebnbookfpmaa.F
