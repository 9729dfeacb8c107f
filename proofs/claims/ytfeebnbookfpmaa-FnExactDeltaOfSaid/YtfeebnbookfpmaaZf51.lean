import Derived.Test.YtfeebnbookfpmaaZT
import Derived.Test.YtfeebnbookfpmaaZf31
namespace Go.Proofs.Ytfeebnbookfpmaa.F
open Go.RowKit Go.Proofs.YtfeebnbookfpmaaW.PrintWords Go.Proofs.YtfeebnbookfpmaaW.PrintLast Go.Proofs.YtfeebnbookfpmaaW.PrintMore Go.Proofs.Ytfeebnbookfpmaa.Z
attribute [local go_sem] max2_int min2_int max_two min_two max_three min_three max_four min_four
set_option linter.unusedVariables false
set_option linter.unusedSimpArgs false
set_option maxRecDepth 100000
/-! ### laws_toCrlS: function 51 -/
def laws_toCrlS.l0 : Nat → (List S54) → Int → (List S49) → Option ((List S54))
  | 0, _, _, _ => none
  | k + 1, l21, x23, a0 => (if x23 < (a0.length : Int) then (if 0 ≤ x23 then (if x23 < (a0.length : Int) then ((laws_toCrl.f k (rd_T49 a0 x23)).bind fun t29 => (laws_toCrlS.l0 k (l21.set (x23).toNat t29) (wrap64 (x23 + 1)) a0)) else none) else none) else (some l21))
def laws_toCrlS.f (k : Nat) (a0 : (List S49)) : Option ((List S54)) := (if 0 ≤ (a0.length : Int) then (if ((a0.length : Int)).toNat ≤ 3198579280802 then (laws_toCrlS.l0 k (List.replicate a0.length z54) 0 a0) else none) else none)
set_option maxHeartbeats 16000000 in
theorem laws_toCrlS.calls {k : Nat} {a0 : (List S49)} {Ap0 : Option Addr} {np0 cp0 : Nat} {r : (List S54)} {w : World} (h : laws_toCrlS.f k a0 = some r) (gp0 : k49.C w Ap0 np0 a0) (lp0 : np0 ≤ cp0) :
    Calls Try.prog 51 #[.slice Ap0 np0 cp0] w (fun e w' => ∃ v0_ : Value, e = .returned (v0_) ∧ Hp noFP w w' [.own (Zd.slice 54 q54) r [v0_]]) := by
 obtain rfl := C_len gp0
 have HS := Hp.start w
 have H := Aside0.mk h
 clear h
 unfold laws_toCrlS.f at H
 go_enter Try.func51, Try.ntmps51
 by_cases c1 : 0 ≤ (a0.length : Int)
 case neg => exact zno c1 H
 replace H := zpos c1 H
 replace c1 := eq_true c1
 by_cases c2 : ((a0.length : Int)).toNat ≤ 3198579280802
 case neg => exact zno c2 H
 replace H := zpos c2 H
 replace c2 := eq_true c2
 go_wp2_with (first | ((with_reducible refine gate_dst (N := 7) rfl ?_); refine ev_make rfl q54 z54 HS rfl (a0.length : Int) rfl rfl Try.underlying84 info54 rfl (by decide) (by decide) q54_zero (of_eq_true c1) (by have := of_eq_true c2; omega) ?_; clear HS; (try clear F); intro v3 w3 HS; obtain ⟨B3, d3, rfl, m3⟩ := HS.formn a0.length 0 rfl (by first | rfl | simp)))
 go_loopg [4] k (fun kq v_4 w' => ∃ (l21 : List S54) (x23 : Int), v_4 = .int .i64 x23 ∧ Aside0 (laws_toCrlS.l0 kq l21 x23 a0 = some r) ∧ Aside0 (kq ≤ k) ∧ Hp noFP w w' [.own (Zd.slice 54 q54) l21 [.slice B3 a0.length d3]])
 case atStart => exact ⟨_, _, rfl, H, ⟨Nat.le_refl _⟩, HS⟩
 case round =>
  clear HS H; (try clear F)
  obtain ⟨l21, x23, rfl, H, HKk20, HS⟩ := hrel
  cases gk with
  | zero => exact absurd H.out (by simp [laws_toCrlS.l0])
  | succ k20 =>
   simp only [laws_toCrlS.l0] at H
   by_cases c25 : x23 < (a0.length : Int)
   · replace H := zpos c25 H
     replace c25 := eq_true c25
     by_cases c26 : 0 ≤ x23
     case neg => exact zno c26 H
     replace H := zpos c26 H
     replace c26 := eq_true c26
     by_cases c27 : x23 < (a0.length : Int)
     case neg => exact zno c27 H
     replace H := zpos c27 H
     replace c27 := eq_true c27
     obtain ⟨ad28, B28_5, d28_5, rfl, e28_0, e28_1, e28_2, e28_3, e28_4, e28_5, e28_6, m28_5, y28_5⟩ := at_T49 gp0 x23 (of_eq_true c26) (of_eq_true c27)
     replace e28_0 := HS.keepc e28_0
     replace e28_1 := HS.keepc e28_1
     replace e28_2 := HS.keepc e28_2
     replace e28_3 := HS.keepc e28_3
     replace e28_4 := HS.keepc e28_4
     replace e28_5 := HS.keepc e28_5
     replace e28_6 := HS.keepc e28_6
     obtain ⟨t29, ht29, H⟩ := zbind H
     go_wp2_with (first | ((with_reducible refine gate_dst (N := 20) rfl ?_); refine ev_call rfl Try.func31 (by kernel_rfl) rfl #[.agg #[.string ((rd_T49 a0 x23).f0), .int .i64 ((rd_T49 a0 x23).f1), .int .i64 ((rd_T49 a0 x23).f2), .int .i64 ((rd_T49 a0 x23).f3), .int .i64 ((rd_T49 a0 x23).f4), .slice B28_5 (rd_T49 a0 x23).f5.length d28_5, .string ((rd_T49 a0 x23).f6)]] rfl (by simp only [List.map_toArray, List.map_cons, List.map_nil]; rfl) ?_; refine (laws_toCrl.calls ht29.out (HS.ro y28_5) m28_5).mono ?_; rintro _ wt29 ⟨v30, rfl, HQ⟩; refine ⟨_, rfl, ?_⟩; replace HS := HS.call HQ; clear HQ; (try clear F); obtain ⟨B30, d30, rfl, m30⟩ := HS.form 1 rfl; obtain ⟨ad32, B32_5, d32_5, rfl, e32_0, e32_1, e32_2, e32_3, e32_4, e32_5, e32_6, m32_5, y32_5⟩ := at_T54 (HS.rd 0 rfl) x23 (of_eq_true c26) (of_eq_true c27)) | ((with_reducible refine gate_store (p := 21) rfl ?_); refine ev_set rfl q54 0 [1] x23 t29 HS (seg := [.string t29.f0, .int .i64 t29.f1, .int .i64 t29.f2, .int .i64 t29.f3, .int .i64 t29.f4, .slice B30 t29.f5.length d30, .string t29.f6]) rfl (by decide) rfl rfl rfl (by first | rfl | exact (Nat.mul_one _).symm) rfl rfl (by kernel_rfl) (by simp [Value.oneCell']) ⟨of_eq_true c26, of_eq_true c27⟩ rfl (fun S hd hh => q54_pack hd (hh 1 (.own (Zd.slice 119 q119) t29.f5 [.slice B30 t29.f5.length d30]) rfl) (by decide)) ?_; clear HS; (try clear F); intro w33 HS))
     go_roundg k20
     case measure => have := HKk20.out; omega
     case rel => exact ⟨_, _, rfl, H, ⟨by have := HKk20.out; omega⟩, HS.pick [0] (by decide) (by rfl)⟩
   · replace H := zneg c25 H
     replace c25 := eq_false c25
     obtain rfl := zsome H
     go_wp2
     exact bodyPost_ret (results_single rfl (.tmp .nil)) rfl ⟨_, rfl, HS.pick [0] (by decide) (by rfl)⟩
end Go.Proofs.Ytfeebnbookfpmaa.F
