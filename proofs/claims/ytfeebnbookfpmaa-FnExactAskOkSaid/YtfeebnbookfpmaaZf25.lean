import Derived.Test.YtfeebnbookfpmaaZT
import Derived.Test.YtfeebnbookfpmaaZf72
import Derived.Test.YtfeebnbookfpmaaZf75
namespace Go.Proofs.Ytfeebnbookfpmaa.F
open Go.RowKit Go.Proofs.YtfeebnbookfpmaaW.PrintWords Go.Proofs.YtfeebnbookfpmaaW.PrintLast Go.Proofs.YtfeebnbookfpmaaW.PrintMore Go.Proofs.Ytfeebnbookfpmaa.Z
attribute [local go_sem] max2_int min2_int max_two min_two max_three min_three max_four min_four
set_option linter.unusedVariables false
set_option linter.unusedSimpArgs false
set_option maxRecDepth 100000
/-! ### spec_AskOk: function 25 -/
def spec_AskOk.l0 : Nat → Int → S43 → Option (Bool)
  | 0, _, _ => none
  | k + 1, x6, a0 => (if x6 < (a0.f0.length : Int) then (if 0 ≤ x6 then (if x6 < (a0.f0.length : Int) then (if 400 < ((rdOf ByteArray.empty a0.f0 x6).size : Int) then (some false) else (spec_AskOk.l0 k (wrap64 (x6 + 1)) a0)) else none) else none) else ((spec_l01In.f (a0.f0.length : Int) 1 3).bind fun t13 => (if t13 = true then ((spec_l01In.f a0.f1 0 99).bind fun t16 => (if t16 = true then ((spec_l01In.f a0.f2 0 3).bind fun t19 => (if t19 = true then ((spec_l01In.f a0.f3 0 1000000000).bind fun t22 => (if t22 = true then ((spec_l09Num.f a0.f4).bind fun t25 => (some t25)) else (some false))) else (some false))) else (some false))) else (some false))))
def spec_AskOk.f (k : Nat) (a0 : S43) : Option (Bool) := (spec_AskOk.l0 k 0 a0)
set_option maxHeartbeats 2000000 in
theorem spec_AskOk.calls {k : Nat} {a0 : S43} {Ap0 : Option Addr} {np0 cp0 : Nat} {r : Bool} {w : World} (h : spec_AskOk.f k a0 = some r) (gp0 : Kd.string.C w Ap0 np0 a0.f0) (lp0 : np0 ≤ cp0) :
    Calls Try.prog 25 #[.agg #[.slice Ap0 np0 cp0, .int .i64 a0.f1, .int .i64 a0.f2, .int .i64 a0.f3, .int .i64 a0.f4, .bool a0.f5]] w (fun e w' => e = .returned (.bool r) ∧ Hp noFP w w' []) := by
 obtain rfl := C_len gp0
 have HS := Hp.start w
 have H := Aside0.mk h
 clear h
 unfold spec_AskOk.f at H
 go_enter Try.func25, Try.ntmps25
 go_wp2_with (first | ((with_reducible refine gate_dst (N := 1) rfl ?_); refine ev_box rfl HS (by first | (go_simp; done) | (go_simp; rfl)) rfl ?_; clear HS; (try clear F); intro g1 w1 HS; have F := HS.boxes; simp only [boxFacts, wrt, List.cons_append, List.nil_append, List.append_nil, List.set_cons_zero, List.set_cons_succ, and_true] at F))
 go_loopg [3] k (fun kq v_3 w' => ∃ (x6 : Int), v_3 = .int .i64 x6 ∧ Aside0 (spec_AskOk.l0 kq x6 a0 = some r) ∧ Aside0 (kq ≤ k) ∧ Hp noFP w w' [.box g1 [.slice Ap0 a0.f0.length cp0, .int .i64 a0.f1, .int .i64 a0.f2, .int .i64 a0.f3, .int .i64 a0.f4, .bool a0.f5] 43])
 case atStart => exact ⟨_, rfl, H, ⟨Nat.le_refl _⟩, HS⟩
 case round =>
  clear HS H; (try clear F)
  obtain ⟨x6, rfl, H, HKk5, HS⟩ := hrel
  have F := HS.boxes; simp only [boxFacts, wrt, List.cons_append, List.nil_append, List.append_nil, List.set_cons_zero, List.set_cons_succ, and_true] at F
  cases gk with
  | zero => exact absurd H.out (by simp [spec_AskOk.l0])
  | succ k5 =>
   simp only [spec_AskOk.l0] at H
   by_cases c8 : x6 < (a0.f0.length : Int)
   · replace H := zpos c8 H
     replace c8 := eq_true c8
     by_cases c9 : 0 ≤ x6
     case neg => exact zno c9 H
     replace H := zpos c9 H
     replace c9 := eq_true c9
     by_cases c10 : x6 < (a0.f0.length : Int)
     case neg => exact zno c10 H
     replace H := zpos c10 H
     replace c10 := eq_true c10
     obtain ⟨ad11, rfl, e11_0⟩ := Kd.at_string gp0 x6 (of_eq_true c9) (of_eq_true c10)
     replace e11_0 := HS.keepc e11_0
     by_cases c12 : 400 < ((rdOf ByteArray.empty a0.f0 x6).size : Int)
     · replace H := zpos c12 H
       replace c12 := eq_true c12
       obtain rfl := zsome H
       go_wp2
       go_ret
       exact ⟨rfl, HS.pick [] (by decide) (by rfl)⟩
     · replace H := zneg c12 H
       replace c12 := eq_false c12
       go_wp2
       go_roundg k5
       case measure => have := HKk5.out; omega
       case rel => exact ⟨_, rfl, H, ⟨by have := HKk5.out; omega⟩, HS.pick [0] (by decide) (by rfl)⟩
   · replace H := zneg c8 H
     replace c8 := eq_false c8
     obtain ⟨t13, ht13, H⟩ := zbind H
     by_cases c15 : t13 = true
     · replace H := zpos c15 H
       obtain ⟨t16, ht16, H⟩ := zbind H
       by_cases c18 : t16 = true
       · replace H := zpos c18 H
         obtain ⟨t19, ht19, H⟩ := zbind H
         by_cases c21 : t19 = true
         · replace H := zpos c21 H
           obtain ⟨t22, ht22, H⟩ := zbind H
           by_cases c24 : t22 = true
           · replace H := zpos c24 H
             obtain ⟨t25, ht25, H⟩ := zbind H
             obtain rfl := zsome H
             go_wp2_with (first | ((with_reducible refine gate_dst (N := 21) rfl ?_); refine ev_call rfl Try.func72 (by kernel_rfl) rfl #[.int .i64 (a0.f0.length : Int), .int .i64 1, .int .i64 3] rfl (by simp only [List.map_toArray, List.map_cons, List.map_nil]; rfl) ?_; refine (spec_l01In.calls ht13.out).mono ?_; rintro _ wt13 ⟨rfl, HQ⟩; refine ⟨_, rfl, ?_⟩; replace HS := HS.call HQ; clear HQ; (try clear F); have F := HS.boxes; simp only [boxFacts, wrt, List.cons_append, List.nil_append, List.append_nil, List.set_cons_zero, List.set_cons_succ, and_true] at F; (try simp only [c15])) | ((with_reducible refine gate_dst (N := 25) rfl ?_); refine gate_guard (by rfl) ?_; refine ev_call rfl Try.func72 (by kernel_rfl) rfl #[.int .i64 a0.f1, .int .i64 0, .int .i64 99] rfl (by simp only [List.map_toArray, List.map_cons, List.map_nil]; rfl) ?_; refine (spec_l01In.calls ht16.out).mono ?_; rintro _ wt16 ⟨rfl, HQ⟩; refine ⟨_, rfl, ?_⟩; replace HS := HS.call HQ; clear HQ; (try clear F); have F := HS.boxes; simp only [boxFacts, wrt, List.cons_append, List.nil_append, List.append_nil, List.set_cons_zero, List.set_cons_succ, and_true] at F; (try simp only [c18])) | ((with_reducible refine gate_dst (N := 30) rfl ?_); refine gate_guard (by rfl) ?_; refine ev_call rfl Try.func72 (by kernel_rfl) rfl #[.int .i64 a0.f2, .int .i64 0, .int .i64 3] rfl (by simp only [List.map_toArray, List.map_cons, List.map_nil]; rfl) ?_; refine (spec_l01In.calls ht19.out).mono ?_; rintro _ wt19 ⟨rfl, HQ⟩; refine ⟨_, rfl, ?_⟩; replace HS := HS.call HQ; clear HQ; (try clear F); have F := HS.boxes; simp only [boxFacts, wrt, List.cons_append, List.nil_append, List.append_nil, List.set_cons_zero, List.set_cons_succ, and_true] at F; (try simp only [c21])) | ((with_reducible refine gate_dst (N := 35) rfl ?_); refine gate_guard (by rfl) ?_; refine ev_call rfl Try.func72 (by kernel_rfl) rfl #[.int .i64 a0.f3, .int .i64 0, .int .i64 1000000000] rfl (by simp only [List.map_toArray, List.map_cons, List.map_nil]; rfl) ?_; refine (spec_l01In.calls ht22.out).mono ?_; rintro _ wt22 ⟨rfl, HQ⟩; refine ⟨_, rfl, ?_⟩; replace HS := HS.call HQ; clear HQ; (try clear F); have F := HS.boxes; simp only [boxFacts, wrt, List.cons_append, List.nil_append, List.append_nil, List.set_cons_zero, List.set_cons_succ, and_true] at F; (try simp only [c24])) | ((with_reducible refine gate_dst (N := 40) rfl ?_); refine gate_guard (by rfl) ?_; refine ev_call rfl Try.func75 (by kernel_rfl) rfl #[.int .i64 a0.f4] rfl (by simp only [List.map_toArray, List.map_cons, List.map_nil]; rfl) ?_; refine (spec_l09Num.calls ht25.out).mono ?_; rintro _ wt25 ⟨rfl, HQ⟩; refine ⟨_, rfl, ?_⟩; replace HS := HS.call HQ; clear HQ; (try clear F); have F := HS.boxes; simp only [boxFacts, wrt, List.cons_append, List.nil_append, List.append_nil, List.set_cons_zero, List.set_cons_succ, and_true] at F))
             go_ret
             exact ⟨rfl, HS.pick [] (by decide) (by rfl)⟩
           · replace H := zneg c24 H
             replace c24 := eq_false_of_ne_true c24
             obtain rfl := zsome H
             go_wp2_with (first | ((with_reducible refine gate_dst (N := 21) rfl ?_); refine ev_call rfl Try.func72 (by kernel_rfl) rfl #[.int .i64 (a0.f0.length : Int), .int .i64 1, .int .i64 3] rfl (by simp only [List.map_toArray, List.map_cons, List.map_nil]; rfl) ?_; refine (spec_l01In.calls ht13.out).mono ?_; rintro _ wt13 ⟨rfl, HQ⟩; refine ⟨_, rfl, ?_⟩; replace HS := HS.call HQ; clear HQ; (try clear F); have F := HS.boxes; simp only [boxFacts, wrt, List.cons_append, List.nil_append, List.append_nil, List.set_cons_zero, List.set_cons_succ, and_true] at F; (try simp only [c15])) | ((with_reducible refine gate_dst (N := 25) rfl ?_); refine gate_guard (by rfl) ?_; refine ev_call rfl Try.func72 (by kernel_rfl) rfl #[.int .i64 a0.f1, .int .i64 0, .int .i64 99] rfl (by simp only [List.map_toArray, List.map_cons, List.map_nil]; rfl) ?_; refine (spec_l01In.calls ht16.out).mono ?_; rintro _ wt16 ⟨rfl, HQ⟩; refine ⟨_, rfl, ?_⟩; replace HS := HS.call HQ; clear HQ; (try clear F); have F := HS.boxes; simp only [boxFacts, wrt, List.cons_append, List.nil_append, List.append_nil, List.set_cons_zero, List.set_cons_succ, and_true] at F; (try simp only [c18])) | ((with_reducible refine gate_dst (N := 30) rfl ?_); refine gate_guard (by rfl) ?_; refine ev_call rfl Try.func72 (by kernel_rfl) rfl #[.int .i64 a0.f2, .int .i64 0, .int .i64 3] rfl (by simp only [List.map_toArray, List.map_cons, List.map_nil]; rfl) ?_; refine (spec_l01In.calls ht19.out).mono ?_; rintro _ wt19 ⟨rfl, HQ⟩; refine ⟨_, rfl, ?_⟩; replace HS := HS.call HQ; clear HQ; (try clear F); have F := HS.boxes; simp only [boxFacts, wrt, List.cons_append, List.nil_append, List.append_nil, List.set_cons_zero, List.set_cons_succ, and_true] at F; (try simp only [c21])) | ((with_reducible refine gate_dst (N := 35) rfl ?_); refine gate_guard (by rfl) ?_; refine ev_call rfl Try.func72 (by kernel_rfl) rfl #[.int .i64 a0.f3, .int .i64 0, .int .i64 1000000000] rfl (by simp only [List.map_toArray, List.map_cons, List.map_nil]; rfl) ?_; refine (spec_l01In.calls ht22.out).mono ?_; rintro _ wt22 ⟨rfl, HQ⟩; refine ⟨_, rfl, ?_⟩; replace HS := HS.call HQ; clear HQ; (try clear F); have F := HS.boxes; simp only [boxFacts, wrt, List.cons_append, List.nil_append, List.append_nil, List.set_cons_zero, List.set_cons_succ, and_true] at F; (try simp only [c24])))
             go_ret
             exact ⟨rfl, HS.pick [] (by decide) (by rfl)⟩
         · replace H := zneg c21 H
           replace c21 := eq_false_of_ne_true c21
           obtain rfl := zsome H
           go_wp2_with (first | ((with_reducible refine gate_dst (N := 21) rfl ?_); refine ev_call rfl Try.func72 (by kernel_rfl) rfl #[.int .i64 (a0.f0.length : Int), .int .i64 1, .int .i64 3] rfl (by simp only [List.map_toArray, List.map_cons, List.map_nil]; rfl) ?_; refine (spec_l01In.calls ht13.out).mono ?_; rintro _ wt13 ⟨rfl, HQ⟩; refine ⟨_, rfl, ?_⟩; replace HS := HS.call HQ; clear HQ; (try clear F); have F := HS.boxes; simp only [boxFacts, wrt, List.cons_append, List.nil_append, List.append_nil, List.set_cons_zero, List.set_cons_succ, and_true] at F; (try simp only [c15])) | ((with_reducible refine gate_dst (N := 25) rfl ?_); refine gate_guard (by rfl) ?_; refine ev_call rfl Try.func72 (by kernel_rfl) rfl #[.int .i64 a0.f1, .int .i64 0, .int .i64 99] rfl (by simp only [List.map_toArray, List.map_cons, List.map_nil]; rfl) ?_; refine (spec_l01In.calls ht16.out).mono ?_; rintro _ wt16 ⟨rfl, HQ⟩; refine ⟨_, rfl, ?_⟩; replace HS := HS.call HQ; clear HQ; (try clear F); have F := HS.boxes; simp only [boxFacts, wrt, List.cons_append, List.nil_append, List.append_nil, List.set_cons_zero, List.set_cons_succ, and_true] at F; (try simp only [c18])) | ((with_reducible refine gate_dst (N := 30) rfl ?_); refine gate_guard (by rfl) ?_; refine ev_call rfl Try.func72 (by kernel_rfl) rfl #[.int .i64 a0.f2, .int .i64 0, .int .i64 3] rfl (by simp only [List.map_toArray, List.map_cons, List.map_nil]; rfl) ?_; refine (spec_l01In.calls ht19.out).mono ?_; rintro _ wt19 ⟨rfl, HQ⟩; refine ⟨_, rfl, ?_⟩; replace HS := HS.call HQ; clear HQ; (try clear F); have F := HS.boxes; simp only [boxFacts, wrt, List.cons_append, List.nil_append, List.append_nil, List.set_cons_zero, List.set_cons_succ, and_true] at F; (try simp only [c21])))
           go_ret
           exact ⟨rfl, HS.pick [] (by decide) (by rfl)⟩
       · replace H := zneg c18 H
         replace c18 := eq_false_of_ne_true c18
         obtain rfl := zsome H
         go_wp2_with (first | ((with_reducible refine gate_dst (N := 21) rfl ?_); refine ev_call rfl Try.func72 (by kernel_rfl) rfl #[.int .i64 (a0.f0.length : Int), .int .i64 1, .int .i64 3] rfl (by simp only [List.map_toArray, List.map_cons, List.map_nil]; rfl) ?_; refine (spec_l01In.calls ht13.out).mono ?_; rintro _ wt13 ⟨rfl, HQ⟩; refine ⟨_, rfl, ?_⟩; replace HS := HS.call HQ; clear HQ; (try clear F); have F := HS.boxes; simp only [boxFacts, wrt, List.cons_append, List.nil_append, List.append_nil, List.set_cons_zero, List.set_cons_succ, and_true] at F; (try simp only [c15])) | ((with_reducible refine gate_dst (N := 25) rfl ?_); refine gate_guard (by rfl) ?_; refine ev_call rfl Try.func72 (by kernel_rfl) rfl #[.int .i64 a0.f1, .int .i64 0, .int .i64 99] rfl (by simp only [List.map_toArray, List.map_cons, List.map_nil]; rfl) ?_; refine (spec_l01In.calls ht16.out).mono ?_; rintro _ wt16 ⟨rfl, HQ⟩; refine ⟨_, rfl, ?_⟩; replace HS := HS.call HQ; clear HQ; (try clear F); have F := HS.boxes; simp only [boxFacts, wrt, List.cons_append, List.nil_append, List.append_nil, List.set_cons_zero, List.set_cons_succ, and_true] at F; (try simp only [c18])))
         go_ret
         exact ⟨rfl, HS.pick [] (by decide) (by rfl)⟩
     · replace H := zneg c15 H
       replace c15 := eq_false_of_ne_true c15
       obtain rfl := zsome H
       go_wp2_with (first | ((with_reducible refine gate_dst (N := 21) rfl ?_); refine ev_call rfl Try.func72 (by kernel_rfl) rfl #[.int .i64 (a0.f0.length : Int), .int .i64 1, .int .i64 3] rfl (by simp only [List.map_toArray, List.map_cons, List.map_nil]; rfl) ?_; refine (spec_l01In.calls ht13.out).mono ?_; rintro _ wt13 ⟨rfl, HQ⟩; refine ⟨_, rfl, ?_⟩; replace HS := HS.call HQ; clear HQ; (try clear F); have F := HS.boxes; simp only [boxFacts, wrt, List.cons_append, List.nil_append, List.append_nil, List.set_cons_zero, List.set_cons_succ, and_true] at F; (try simp only [c15])))
       go_ret
       exact ⟨rfl, HS.pick [] (by decide) (by rfl)⟩
end Go.Proofs.Ytfeebnbookfpmaa.F
