import Derived.Test.YtfeebnbookfpmaaZT
import Derived.Test.YtfeebnbookfpmaaZf94
namespace Go.Proofs.Ytfeebnbookfpmaa.F
open Go.RowKit Go.Proofs.YtfeebnbookfpmaaW.PrintWords Go.Proofs.YtfeebnbookfpmaaW.PrintLast Go.Proofs.YtfeebnbookfpmaaW.PrintMore Go.Proofs.Ytfeebnbookfpmaa.Z
attribute [local go_sem] max2_int min2_int max_two min_two max_three min_three max_four min_four
set_option linter.unusedVariables false
set_option linter.unusedSimpArgs false
set_option maxRecDepth 100000
/-! ### impl_Answer_93_0: function 93 -/
def impl_Answer_93_0.l0 : Nat → Int → (List S127) → (List S127) → Option (Bool)
  | 0, _, _, _ => none
  | k + 1, x5, a0, a1 => (if x5 < (a0.length : Int) then (if 0 ≤ x5 then (if x5 < (a0.length : Int) then (if x5 < (a1.length : Int) then ((impl_sameAnswer.f k (rd_T127 a0 x5) (rd_T127 a1 x5)).bind fun t21 => (if t21 = true then (impl_Answer_93_0.l0 k (wrap64 (x5 + 1)) a0 a1) else (some false))) else none) else none) else none) else (some true))
def impl_Answer_93_0.f (k : Nat) (a0 : (List S127)) (a1 : (List S127)) : Option (Bool) := (if (a0.length : Int) = (a1.length : Int) then (impl_Answer_93_0.l0 k 0 a0 a1) else (some false))
set_option maxHeartbeats 2000000 in
theorem impl_Answer_93_0.calls {k : Nat} {a0 : (List S127)} {a1 : (List S127)} {Ap0 : Option Addr} {np0 cp0 : Nat} {Ap1 : Option Addr} {np1 cp1 : Nat} {r : Bool} {w : World} (h : impl_Answer_93_0.f k a0 a1 = some r) (gp0 : k127.C w Ap0 np0 a0) (lp0 : np0 ≤ cp0) (gp1 : k127.C w Ap1 np1 a1) (lp1 : np1 ≤ cp1) :
    Calls Try.prog 93 #[.slice Ap0 np0 cp0, .slice Ap1 np1 cp1, .func (.func 94) #[] #[]] w (fun e w' => e = .returned (.bool r) ∧ Hp noFP w w' []) := by
 obtain rfl := C_len gp0
 obtain rfl := C_len gp1
 have HS := Hp.start w
 have H := Aside0.mk h
 clear h
 unfold impl_Answer_93_0.f at H
 go_enter Try.func93, Try.ntmps93
 by_cases c1 : (a0.length : Int) = (a1.length : Int)
 · replace H := zpos c1 H
   have c1a := beq_iff_eq.mpr c1
   have c1b := bne_eq_false_iff_eq.mpr c1
   clear c1
   go_wp2
   go_loopg [17] k (fun kq v_17 w' => ∃ (x5 : Int), v_17 = .int .i64 x5 ∧ Aside0 (impl_Answer_93_0.l0 kq x5 a0 a1 = some r) ∧ Aside0 (kq ≤ k) ∧ Hp noFP w w' [])
   case atStart => exact ⟨_, rfl, H, ⟨Nat.le_refl _⟩, HS⟩
   case round =>
    clear HS H; (try clear F)
    obtain ⟨x5, rfl, H, HKk4, HS⟩ := hrel
    cases gk with
    | zero => exact absurd H.out (by simp [impl_Answer_93_0.l0])
    | succ k4 =>
     simp only [impl_Answer_93_0.l0] at H
     by_cases c7 : x5 < (a0.length : Int)
     · replace H := zpos c7 H
       replace c7 := eq_true c7
       by_cases c8 : 0 ≤ x5
       case neg => exact zno c8 H
       replace H := zpos c8 H
       replace c8 := eq_true c8
       by_cases c9 : x5 < (a0.length : Int)
       case neg => exact zno c9 H
       replace H := zpos c9 H
       replace c9 := eq_true c9
       obtain ⟨ad10, B10_2, d10_2, B10_3, d10_3, rfl, e10_0, e10_1, e10_2, e10_3, m10_2, y10_2, m10_3, y10_3⟩ := at_T127 gp0 x5 (of_eq_true c8) (of_eq_true c9)
       replace e10_0 := HS.keepc e10_0
       replace e10_1 := HS.keepc e10_1
       replace e10_2 := HS.keepc e10_2
       replace e10_3 := HS.keepc e10_3
       by_cases c15 : x5 < (a1.length : Int)
       case neg => exact zno c15 H
       replace H := zpos c15 H
       replace c15 := eq_true c15
       obtain ⟨t21, ht21, H⟩ := zbind H
       go_upto_if 30 with (first | ((with_reducible refine gate_dst (N := 8) rfl ?_); refine ev_box rfl HS (by first | (go_simp; done) | (go_simp; rfl)) rfl ?_; clear HS; (try clear F); intro g8 w8 HS; have F := HS.boxes; simp only [boxFacts, wrt, List.cons_append, List.nil_append, List.append_nil, List.set_cons_zero, List.set_cons_succ, and_true] at F) | ((with_reducible refine gate_store (p := 8) rfl ?_); refine ev_store rfl 0 0 HS (seg := [.int .i64 ((rd_T127 a0 x5).f0), .int .i64 ((rd_T127 a0 x5).f1), .slice B10_2 (rd_T127 a0 x5).f2.length d10_2, .slice B10_3 (rd_T127 a0 x5).f3.length d10_3]) rfl rfl rfl rfl rfl rfl (by kernel_rfl) (by simp [wrt]) (by simp [Value.oneCell']) ?_; clear HS; (try clear F); intro w13 HS; have F := HS.boxes; simp only [boxFacts, wrt, List.cons_append, List.nil_append, List.append_nil, List.set_cons_zero, List.set_cons_succ, and_true] at F; obtain ⟨ad16, B16_2, d16_2, B16_3, d16_3, rfl, e16_0, e16_1, e16_2, e16_3, m16_2, y16_2, m16_3, y16_3⟩ := at_T127 gp1 x5 (of_eq_true c8) (of_eq_true c15); replace e16_0 := HS.keepc e16_0; replace e16_1 := HS.keepc e16_1; replace e16_2 := HS.keepc e16_2; replace e16_3 := HS.keepc e16_3) | ((with_reducible refine gate_dst (N := 9) rfl ?_); refine ev_box rfl HS (by first | (go_simp; done) | (go_simp; rfl)) rfl ?_; clear HS; (try clear F); intro g9 w9 HS; have F := HS.boxes; simp only [boxFacts, wrt, List.cons_append, List.nil_append, List.append_nil, List.set_cons_zero, List.set_cons_succ, and_true] at F) | ((with_reducible refine gate_store (p := 9) rfl ?_); refine ev_store rfl 1 0 HS (seg := [.int .i64 ((rd_T127 a1 x5).f0), .int .i64 ((rd_T127 a1 x5).f1), .slice B16_2 (rd_T127 a1 x5).f2.length d16_2, .slice B16_3 (rd_T127 a1 x5).f3.length d16_3]) rfl rfl rfl rfl rfl rfl (by kernel_rfl) (by simp [wrt]) (by simp [Value.oneCell']) ?_; clear HS; (try clear F); intro w19 HS; have F := HS.boxes; simp only [boxFacts, wrt, List.cons_append, List.nil_append, List.append_nil, List.set_cons_zero, List.set_cons_succ, and_true] at F) | ((with_reducible refine gate_dst (N := 29) rfl ?_); refine ev_callv rfl Try.func94 (by kernel_rfl) rfl #[.agg #[.int .i64 ((rd_T127 a0 x5).f0), .int .i64 ((rd_T127 a0 x5).f1), .slice B10_2 (rd_T127 a0 x5).f2.length d10_2, .slice B10_3 (rd_T127 a0 x5).f3.length d10_3], .agg #[.int .i64 ((rd_T127 a1 x5).f0), .int .i64 ((rd_T127 a1 x5).f1), .slice B16_2 (rd_T127 a1 x5).f2.length d16_2, .slice B16_3 (rd_T127 a1 x5).f3.length d16_3]] #[.agg #[.int .i64 ((rd_T127 a0 x5).f0), .int .i64 ((rd_T127 a0 x5).f1), .slice B10_2 (rd_T127 a0 x5).f2.length d10_2, .slice B10_3 (rd_T127 a0 x5).f3.length d10_3], .agg #[.int .i64 ((rd_T127 a1 x5).f0), .int .i64 ((rd_T127 a1 x5).f1), .slice B16_2 (rd_T127 a1 x5).f2.length d16_2, .slice B16_3 (rd_T127 a1 x5).f3.length d16_3]] rfl rfl (by simp only [List.map_toArray, List.map_cons, List.map_nil]; rfl) (by first | rfl | simp) ?_; refine (impl_sameAnswer.calls ht21.out (HS.ro y10_2) m10_2 (HS.ro y10_3) m10_3 (HS.ro y16_2) m16_2 (HS.ro y16_3) m16_3).mono ?_; rintro _ wt21 ⟨rfl, HQ⟩; refine ⟨_, rfl, ?_⟩; replace HS := HS.call HQ; clear HQ; (try clear F); have F := HS.boxes; simp only [boxFacts, wrt, List.cons_append, List.nil_append, List.append_nil, List.set_cons_zero, List.set_cons_succ, and_true] at F))
       by_cases c23 : t21 = true
       · replace H := zpos c23 H
         (try simp only [c23, decide_true, decide_false, Bool.not_true, Bool.not_false])
         go_wp2
         go_roundg k4
         case measure => have := HKk4.out; omega
         case rel => exact ⟨_, rfl, H, ⟨by have := HKk4.out; omega⟩, HS.pick [] (by decide) (by rfl)⟩
       · replace H := zneg c23 H
         replace c23 := eq_false_of_ne_true c23
         (try simp only [c23, decide_true, decide_false, Bool.not_true, Bool.not_false])
         obtain rfl := zsome H
         go_wp2
         go_ret
         exact ⟨rfl, HS.pick [] (by decide) (by rfl)⟩
     · replace H := zneg c7 H
       replace c7 := eq_false c7
       obtain rfl := zsome H
       go_wp2
       go_ret
       exact ⟨rfl, HS.pick [] (by decide) (by rfl)⟩
 · replace H := zneg c1 H
   have c1a := beq_eq_false_iff_ne.mpr c1
   have c1b := bne_iff_ne.mpr c1
   clear c1
   obtain rfl := zsome H
   go_wp2
   go_ret
   exact ⟨rfl, HS.pick [] (by decide) (by rfl)⟩
end Go.Proofs.Ytfeebnbookfpmaa.F
