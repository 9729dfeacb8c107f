/- Functions of the program and of the law, and that their calls do what is written here. -/
import Derived.Test.YtdcjcanobiohnaaZgFnExactReadAskc
import Derived.Test.YtdcjcanobiohnaaZgFnExactReadAskd
import Derived.Test.YtdcjcanobiohnaaZgFnExactReadAske
namespace Go.Proofs.Ytdcjcanobiohnaa.F
open Go.RowKit Go.Proofs.YtdcjcanobiohnaaW.PrintWords Go.Proofs.YtdcjcanobiohnaaW.PrintLast Go.Proofs.YtdcjcanobiohnaaW.PrintMore Go.Proofs.Ytdcjcanobiohnaa.Z
attribute [local go_sem] max2_int min2_int max_two min_two max_three min_three max_four min_four
set_option linter.unusedVariables false
set_option linter.unusedSimpArgs false
set_option maxRecDepth 100000
/-! ### impl_timeOk: function 172 -/
def impl_timeOk.f (a0 : Int) : Option (Bool) := ((impl_within.f a0 0 9999).bind fun t1 => (some t1))
set_option maxHeartbeats 16000000 in
theorem impl_timeOk.calls {a0 : Int} {r : Bool} {w : World} (h : impl_timeOk.f a0 = some r) :
    Calls Try.prog 172 #[.int .i64 a0] w (fun e w' => e = .returned (.bool r) ∧ Hp noFP w w' []) := by
 have HS := Hp.start w
 have H := Aside0.mk h
 clear h
 unfold impl_timeOk.f at H
 go_enter Try.func172, Try.ntmps172
 replace H := zbind H; obtain ⟨t1, ht1, H⟩ := H
 obtain rfl := zsome H
 go_wp2_with (first | ((with_reducible refine gate_dst (N := 4) rfl ?_); refine ev_call rfl Try.func132 (by kernel_rfl) rfl #[.int .i64 a0, .int .i64 0, .int .i64 9999] rfl (by simp only [List.map_toArray, List.map_cons, List.map_nil]; rfl) ?_; refine (impl_within.calls ht1.out).mono ?_; rintro _ wt1 ⟨rfl, HQ⟩; refine ⟨_, rfl, ?_⟩; replace HS := HS.call HQ; clear HQ; (try clear F); replace HS : Hp noFP w _ [] := HS))
 go_ret
 exact ⟨rfl, HS.pick [] (by decide) (by rfl)⟩
/-! ### impl_AskOk: function 147 -/
def impl_AskOk.f (k : Nat) (a0 : S67) : Option (Bool) := (if 1 ≤ (a0.f0.length : Int) then ((impl_textsOk.f k a0.f0 3).bind fun t4 => (if t4 = true then ((impl_within.f a0.f1 0 99).bind fun t7 => (if t7 = true then ((impl_within.f a0.f2 0 3).bind fun t10 => (if t10 = true then ((impl_within.f a0.f3 0 1000000000).bind fun t13 => (if t13 = true then ((impl_timeOk.f a0.f4).bind fun t16 => (some t16)) else (some false))) else (some false))) else (some false))) else (some false))) else (some false))
set_option maxHeartbeats 16000000 in
theorem impl_AskOk.calls {k : Nat} {a0 : S67} {Ap0 : Option Addr} {np0 cp0 : Nat} {r : Bool} {w : World} (h : impl_AskOk.f k a0 = some r) (gp0 : Kd.string.C w Ap0 np0 a0.f0) (lp0 : np0 ≤ cp0) :
    Calls Try.prog 147 #[.agg #[.slice Ap0 np0 cp0, .int .i64 a0.f1, .int .i64 a0.f2, .int .i64 a0.f3, .int .i64 a0.f4, .bool a0.f5]] w (fun e w' => e = .returned (.bool r) ∧ Hp noFP w w' []) := by
 obtain rfl := C_len gp0
 have HS := Hp.start w
 have H := Aside0.mk h
 clear h
 unfold impl_AskOk.f at H
 go_enter Try.func147, Try.ntmps147
 by_cases c3 : 1 ≤ (a0.f0.length : Int)
 · replace H := zpos c3 H
   replace c3 := eq_true c3
   replace H := zbind H; obtain ⟨t4, ht4, H⟩ := H
   by_cases c6 : t4 = true
   · replace H := zpos c6 H
     subst c6
     replace H := zbind H; obtain ⟨t7, ht7, H⟩ := H
     by_cases c9 : t7 = true
     · replace H := zpos c9 H
       subst c9
       replace H := zbind H; obtain ⟨t10, ht10, H⟩ := H
       by_cases c12 : t10 = true
       · replace H := zpos c12 H
         subst c12
         replace H := zbind H; obtain ⟨t13, ht13, H⟩ := H
         by_cases c15 : t13 = true
         · replace H := zpos c15 H
           subst c15
           replace H := zbind H; obtain ⟨t16, ht16, H⟩ := H
           obtain rfl := zsome H
           go_wp2_with (first | ((with_reducible refine gate_dst (N := 1) rfl ?_); refine ev_box rfl HS (by first | (go_simp; done) | (go_simp; rfl)) rfl ?_; clear HS; (try clear F); intro g1 w1 HS; replace HS : Hp noFP w _ [.box g1 [.slice Ap0 a0.f0.length cp0, .int .i64 a0.f1, .int .i64 a0.f2, .int .i64 a0.f3, .int .i64 a0.f4, .bool a0.f5] 67] := HS; have F := HS.boxes; simp only [boxFacts, and_true] at F) | ((with_reducible refine gate_dst (N := 10) rfl ?_); refine gate_guard (by rfl) ?_; refine ev_call rfl Try.func168 (by kernel_rfl) rfl #[.slice Ap0 a0.f0.length cp0, .int .i64 3] rfl (by simp only [List.map_toArray, List.map_cons, List.map_nil]; rfl) ?_; refine (impl_textsOk.calls ht4.out (HS.ro gp0) lp0).mono ?_; rintro _ wt4 ⟨rfl, HQ⟩; refine ⟨_, rfl, ?_⟩; replace HS := HS.call HQ; clear HQ; (try clear F); replace HS : Hp noFP w _ [.box g1 [.slice Ap0 a0.f0.length cp0, .int .i64 a0.f1, .int .i64 a0.f2, .int .i64 a0.f3, .int .i64 a0.f4, .bool a0.f5] 67] := HS; have F := HS.boxes; simp only [boxFacts, and_true] at F) | ((with_reducible refine gate_dst (N := 15) rfl ?_); refine gate_guard (by rfl) ?_; refine ev_call rfl Try.func132 (by kernel_rfl) rfl #[.int .i64 a0.f1, .int .i64 0, .int .i64 99] rfl (by simp only [List.map_toArray, List.map_cons, List.map_nil]; rfl) ?_; refine (impl_within.calls ht7.out).mono ?_; rintro _ wt7 ⟨rfl, HQ⟩; refine ⟨_, rfl, ?_⟩; replace HS := HS.call HQ; clear HQ; (try clear F); replace HS : Hp noFP w _ [.box g1 [.slice Ap0 a0.f0.length cp0, .int .i64 a0.f1, .int .i64 a0.f2, .int .i64 a0.f3, .int .i64 a0.f4, .bool a0.f5] 67] := HS; have F := HS.boxes; simp only [boxFacts, and_true] at F) | ((with_reducible refine gate_dst (N := 20) rfl ?_); refine gate_guard (by rfl) ?_; refine ev_call rfl Try.func132 (by kernel_rfl) rfl #[.int .i64 a0.f2, .int .i64 0, .int .i64 3] rfl (by simp only [List.map_toArray, List.map_cons, List.map_nil]; rfl) ?_; refine (impl_within.calls ht10.out).mono ?_; rintro _ wt10 ⟨rfl, HQ⟩; refine ⟨_, rfl, ?_⟩; replace HS := HS.call HQ; clear HQ; (try clear F); replace HS : Hp noFP w _ [.box g1 [.slice Ap0 a0.f0.length cp0, .int .i64 a0.f1, .int .i64 a0.f2, .int .i64 a0.f3, .int .i64 a0.f4, .bool a0.f5] 67] := HS; have F := HS.boxes; simp only [boxFacts, and_true] at F) | ((with_reducible refine gate_dst (N := 25) rfl ?_); refine gate_guard (by rfl) ?_; refine ev_call rfl Try.func132 (by kernel_rfl) rfl #[.int .i64 a0.f3, .int .i64 0, .int .i64 1000000000] rfl (by simp only [List.map_toArray, List.map_cons, List.map_nil]; rfl) ?_; refine (impl_within.calls ht13.out).mono ?_; rintro _ wt13 ⟨rfl, HQ⟩; refine ⟨_, rfl, ?_⟩; replace HS := HS.call HQ; clear HQ; (try clear F); replace HS : Hp noFP w _ [.box g1 [.slice Ap0 a0.f0.length cp0, .int .i64 a0.f1, .int .i64 a0.f2, .int .i64 a0.f3, .int .i64 a0.f4, .bool a0.f5] 67] := HS; have F := HS.boxes; simp only [boxFacts, and_true] at F) | ((with_reducible refine gate_dst (N := 30) rfl ?_); refine gate_guard (by rfl) ?_; refine ev_call rfl Try.func172 (by kernel_rfl) rfl #[.int .i64 a0.f4] rfl (by simp only [List.map_toArray, List.map_cons, List.map_nil]; rfl) ?_; refine (impl_timeOk.calls ht16.out).mono ?_; rintro _ wt16 ⟨rfl, HQ⟩; refine ⟨_, rfl, ?_⟩; replace HS := HS.call HQ; clear HQ; (try clear F); replace HS : Hp noFP w _ [.box g1 [.slice Ap0 a0.f0.length cp0, .int .i64 a0.f1, .int .i64 a0.f2, .int .i64 a0.f3, .int .i64 a0.f4, .bool a0.f5] 67] := HS; have F := HS.boxes; simp only [boxFacts, and_true] at F))
           go_ret
           exact ⟨rfl, HS.pick [] (by decide) (by rfl)⟩
         · replace H := zneg c15 H
           replace c15 := eq_false_of_ne_true c15
           subst c15
           obtain rfl := zsome H
           go_wp2_with (first | ((with_reducible refine gate_dst (N := 1) rfl ?_); refine ev_box rfl HS (by first | (go_simp; done) | (go_simp; rfl)) rfl ?_; clear HS; (try clear F); intro g1 w1 HS; replace HS : Hp noFP w _ [.box g1 [.slice Ap0 a0.f0.length cp0, .int .i64 a0.f1, .int .i64 a0.f2, .int .i64 a0.f3, .int .i64 a0.f4, .bool a0.f5] 67] := HS; have F := HS.boxes; simp only [boxFacts, and_true] at F) | ((with_reducible refine gate_dst (N := 10) rfl ?_); refine gate_guard (by rfl) ?_; refine ev_call rfl Try.func168 (by kernel_rfl) rfl #[.slice Ap0 a0.f0.length cp0, .int .i64 3] rfl (by simp only [List.map_toArray, List.map_cons, List.map_nil]; rfl) ?_; refine (impl_textsOk.calls ht4.out (HS.ro gp0) lp0).mono ?_; rintro _ wt4 ⟨rfl, HQ⟩; refine ⟨_, rfl, ?_⟩; replace HS := HS.call HQ; clear HQ; (try clear F); replace HS : Hp noFP w _ [.box g1 [.slice Ap0 a0.f0.length cp0, .int .i64 a0.f1, .int .i64 a0.f2, .int .i64 a0.f3, .int .i64 a0.f4, .bool a0.f5] 67] := HS; have F := HS.boxes; simp only [boxFacts, and_true] at F) | ((with_reducible refine gate_dst (N := 15) rfl ?_); refine gate_guard (by rfl) ?_; refine ev_call rfl Try.func132 (by kernel_rfl) rfl #[.int .i64 a0.f1, .int .i64 0, .int .i64 99] rfl (by simp only [List.map_toArray, List.map_cons, List.map_nil]; rfl) ?_; refine (impl_within.calls ht7.out).mono ?_; rintro _ wt7 ⟨rfl, HQ⟩; refine ⟨_, rfl, ?_⟩; replace HS := HS.call HQ; clear HQ; (try clear F); replace HS : Hp noFP w _ [.box g1 [.slice Ap0 a0.f0.length cp0, .int .i64 a0.f1, .int .i64 a0.f2, .int .i64 a0.f3, .int .i64 a0.f4, .bool a0.f5] 67] := HS; have F := HS.boxes; simp only [boxFacts, and_true] at F) | ((with_reducible refine gate_dst (N := 20) rfl ?_); refine gate_guard (by rfl) ?_; refine ev_call rfl Try.func132 (by kernel_rfl) rfl #[.int .i64 a0.f2, .int .i64 0, .int .i64 3] rfl (by simp only [List.map_toArray, List.map_cons, List.map_nil]; rfl) ?_; refine (impl_within.calls ht10.out).mono ?_; rintro _ wt10 ⟨rfl, HQ⟩; refine ⟨_, rfl, ?_⟩; replace HS := HS.call HQ; clear HQ; (try clear F); replace HS : Hp noFP w _ [.box g1 [.slice Ap0 a0.f0.length cp0, .int .i64 a0.f1, .int .i64 a0.f2, .int .i64 a0.f3, .int .i64 a0.f4, .bool a0.f5] 67] := HS; have F := HS.boxes; simp only [boxFacts, and_true] at F) | ((with_reducible refine gate_dst (N := 25) rfl ?_); refine gate_guard (by rfl) ?_; refine ev_call rfl Try.func132 (by kernel_rfl) rfl #[.int .i64 a0.f3, .int .i64 0, .int .i64 1000000000] rfl (by simp only [List.map_toArray, List.map_cons, List.map_nil]; rfl) ?_; refine (impl_within.calls ht13.out).mono ?_; rintro _ wt13 ⟨rfl, HQ⟩; refine ⟨_, rfl, ?_⟩; replace HS := HS.call HQ; clear HQ; (try clear F); replace HS : Hp noFP w _ [.box g1 [.slice Ap0 a0.f0.length cp0, .int .i64 a0.f1, .int .i64 a0.f2, .int .i64 a0.f3, .int .i64 a0.f4, .bool a0.f5] 67] := HS; have F := HS.boxes; simp only [boxFacts, and_true] at F))
           go_ret
           exact ⟨rfl, HS.pick [] (by decide) (by rfl)⟩
       · replace H := zneg c12 H
         replace c12 := eq_false_of_ne_true c12
         subst c12
         obtain rfl := zsome H
         go_wp2_with (first | ((with_reducible refine gate_dst (N := 1) rfl ?_); refine ev_box rfl HS (by first | (go_simp; done) | (go_simp; rfl)) rfl ?_; clear HS; (try clear F); intro g1 w1 HS; replace HS : Hp noFP w _ [.box g1 [.slice Ap0 a0.f0.length cp0, .int .i64 a0.f1, .int .i64 a0.f2, .int .i64 a0.f3, .int .i64 a0.f4, .bool a0.f5] 67] := HS; have F := HS.boxes; simp only [boxFacts, and_true] at F) | ((with_reducible refine gate_dst (N := 10) rfl ?_); refine gate_guard (by rfl) ?_; refine ev_call rfl Try.func168 (by kernel_rfl) rfl #[.slice Ap0 a0.f0.length cp0, .int .i64 3] rfl (by simp only [List.map_toArray, List.map_cons, List.map_nil]; rfl) ?_; refine (impl_textsOk.calls ht4.out (HS.ro gp0) lp0).mono ?_; rintro _ wt4 ⟨rfl, HQ⟩; refine ⟨_, rfl, ?_⟩; replace HS := HS.call HQ; clear HQ; (try clear F); replace HS : Hp noFP w _ [.box g1 [.slice Ap0 a0.f0.length cp0, .int .i64 a0.f1, .int .i64 a0.f2, .int .i64 a0.f3, .int .i64 a0.f4, .bool a0.f5] 67] := HS; have F := HS.boxes; simp only [boxFacts, and_true] at F) | ((with_reducible refine gate_dst (N := 15) rfl ?_); refine gate_guard (by rfl) ?_; refine ev_call rfl Try.func132 (by kernel_rfl) rfl #[.int .i64 a0.f1, .int .i64 0, .int .i64 99] rfl (by simp only [List.map_toArray, List.map_cons, List.map_nil]; rfl) ?_; refine (impl_within.calls ht7.out).mono ?_; rintro _ wt7 ⟨rfl, HQ⟩; refine ⟨_, rfl, ?_⟩; replace HS := HS.call HQ; clear HQ; (try clear F); replace HS : Hp noFP w _ [.box g1 [.slice Ap0 a0.f0.length cp0, .int .i64 a0.f1, .int .i64 a0.f2, .int .i64 a0.f3, .int .i64 a0.f4, .bool a0.f5] 67] := HS; have F := HS.boxes; simp only [boxFacts, and_true] at F) | ((with_reducible refine gate_dst (N := 20) rfl ?_); refine gate_guard (by rfl) ?_; refine ev_call rfl Try.func132 (by kernel_rfl) rfl #[.int .i64 a0.f2, .int .i64 0, .int .i64 3] rfl (by simp only [List.map_toArray, List.map_cons, List.map_nil]; rfl) ?_; refine (impl_within.calls ht10.out).mono ?_; rintro _ wt10 ⟨rfl, HQ⟩; refine ⟨_, rfl, ?_⟩; replace HS := HS.call HQ; clear HQ; (try clear F); replace HS : Hp noFP w _ [.box g1 [.slice Ap0 a0.f0.length cp0, .int .i64 a0.f1, .int .i64 a0.f2, .int .i64 a0.f3, .int .i64 a0.f4, .bool a0.f5] 67] := HS; have F := HS.boxes; simp only [boxFacts, and_true] at F))
         go_ret
         exact ⟨rfl, HS.pick [] (by decide) (by rfl)⟩
     · replace H := zneg c9 H
       replace c9 := eq_false_of_ne_true c9
       subst c9
       obtain rfl := zsome H
       go_wp2_with (first | ((with_reducible refine gate_dst (N := 1) rfl ?_); refine ev_box rfl HS (by first | (go_simp; done) | (go_simp; rfl)) rfl ?_; clear HS; (try clear F); intro g1 w1 HS; replace HS : Hp noFP w _ [.box g1 [.slice Ap0 a0.f0.length cp0, .int .i64 a0.f1, .int .i64 a0.f2, .int .i64 a0.f3, .int .i64 a0.f4, .bool a0.f5] 67] := HS; have F := HS.boxes; simp only [boxFacts, and_true] at F) | ((with_reducible refine gate_dst (N := 10) rfl ?_); refine gate_guard (by rfl) ?_; refine ev_call rfl Try.func168 (by kernel_rfl) rfl #[.slice Ap0 a0.f0.length cp0, .int .i64 3] rfl (by simp only [List.map_toArray, List.map_cons, List.map_nil]; rfl) ?_; refine (impl_textsOk.calls ht4.out (HS.ro gp0) lp0).mono ?_; rintro _ wt4 ⟨rfl, HQ⟩; refine ⟨_, rfl, ?_⟩; replace HS := HS.call HQ; clear HQ; (try clear F); replace HS : Hp noFP w _ [.box g1 [.slice Ap0 a0.f0.length cp0, .int .i64 a0.f1, .int .i64 a0.f2, .int .i64 a0.f3, .int .i64 a0.f4, .bool a0.f5] 67] := HS; have F := HS.boxes; simp only [boxFacts, and_true] at F) | ((with_reducible refine gate_dst (N := 15) rfl ?_); refine gate_guard (by rfl) ?_; refine ev_call rfl Try.func132 (by kernel_rfl) rfl #[.int .i64 a0.f1, .int .i64 0, .int .i64 99] rfl (by simp only [List.map_toArray, List.map_cons, List.map_nil]; rfl) ?_; refine (impl_within.calls ht7.out).mono ?_; rintro _ wt7 ⟨rfl, HQ⟩; refine ⟨_, rfl, ?_⟩; replace HS := HS.call HQ; clear HQ; (try clear F); replace HS : Hp noFP w _ [.box g1 [.slice Ap0 a0.f0.length cp0, .int .i64 a0.f1, .int .i64 a0.f2, .int .i64 a0.f3, .int .i64 a0.f4, .bool a0.f5] 67] := HS; have F := HS.boxes; simp only [boxFacts, and_true] at F))
       go_ret
       exact ⟨rfl, HS.pick [] (by decide) (by rfl)⟩
   · replace H := zneg c6 H
     replace c6 := eq_false_of_ne_true c6
     subst c6
     obtain rfl := zsome H
     go_wp2_with (first | ((with_reducible refine gate_dst (N := 1) rfl ?_); refine ev_box rfl HS (by first | (go_simp; done) | (go_simp; rfl)) rfl ?_; clear HS; (try clear F); intro g1 w1 HS; replace HS : Hp noFP w _ [.box g1 [.slice Ap0 a0.f0.length cp0, .int .i64 a0.f1, .int .i64 a0.f2, .int .i64 a0.f3, .int .i64 a0.f4, .bool a0.f5] 67] := HS; have F := HS.boxes; simp only [boxFacts, and_true] at F) | ((with_reducible refine gate_dst (N := 10) rfl ?_); refine gate_guard (by rfl) ?_; refine ev_call rfl Try.func168 (by kernel_rfl) rfl #[.slice Ap0 a0.f0.length cp0, .int .i64 3] rfl (by simp only [List.map_toArray, List.map_cons, List.map_nil]; rfl) ?_; refine (impl_textsOk.calls ht4.out (HS.ro gp0) lp0).mono ?_; rintro _ wt4 ⟨rfl, HQ⟩; refine ⟨_, rfl, ?_⟩; replace HS := HS.call HQ; clear HQ; (try clear F); replace HS : Hp noFP w _ [.box g1 [.slice Ap0 a0.f0.length cp0, .int .i64 a0.f1, .int .i64 a0.f2, .int .i64 a0.f3, .int .i64 a0.f4, .bool a0.f5] 67] := HS; have F := HS.boxes; simp only [boxFacts, and_true] at F))
     go_ret
     exact ⟨rfl, HS.pick [] (by decide) (by rfl)⟩
 · replace H := zneg c3 H
   replace c3 := eq_false c3
   obtain rfl := zsome H
   go_wp2_with (first | ((with_reducible refine gate_dst (N := 1) rfl ?_); refine ev_box rfl HS (by first | (go_simp; done) | (go_simp; rfl)) rfl ?_; clear HS; (try clear F); intro g1 w1 HS; replace HS : Hp noFP w _ [.box g1 [.slice Ap0 a0.f0.length cp0, .int .i64 a0.f1, .int .i64 a0.f2, .int .i64 a0.f3, .int .i64 a0.f4, .bool a0.f5] 67] := HS; have F := HS.boxes; simp only [boxFacts, and_true] at F))
   go_ret
   exact ⟨rfl, HS.pick [] (by decide) (by rfl)⟩
/-! ### impl_boolItem: function 148 -/
def impl_boolItem.f (a0 : Bool) : Option (S107) := (if a0 = true then (some (⟨1, (⟨#[255]⟩ : ByteArray), ([] : List S107)⟩ : S107)) else (some (⟨1, (⟨#[0]⟩ : ByteArray), ([] : List S107)⟩ : S107)))
set_option maxHeartbeats 16000000 in
theorem impl_boolItem.calls {a0 : Bool} {r : S107} {w : World} (h : impl_boolItem.f a0 = some r) :
    Calls Try.prog 148 #[.bool a0] w (fun e w' => ∃ v0_ : Value, e = .returned (.agg #[.int .i64 r.f0, .string r.f1, v0_]) ∧ Hp noFP w w' [.own (Zd.slice 107 q107) r.f2 [v0_]]) := by
 have HS := Hp.start w
 have H := Aside0.mk h
 clear h
 unfold impl_boolItem.f at H
 go_enter Try.func148, Try.ntmps148
 go_upto_if 3 with (first | ((with_reducible refine gate_dst (N := 2) rfl ?_); refine ev_box rfl HS (by first | (go_simp; done) | (go_simp; rfl)) rfl ?_; clear HS; (try clear F); intro g2 w2 HS; replace HS : Hp noFP w _ [.box g2 [.int .i64 0, .string (⟨#[]⟩ : ByteArray), .slice none 0 0] 107] := HS; have F := HS.boxes; simp only [boxFacts, and_true] at F))
 by_cases c3 : a0 = true
 · replace H := zpos c3 H
   subst c3
   (try simp only [decide_true, decide_false, Bool.not_true, Bool.not_false, if_true, Bool.false_eq_true, if_false])
   obtain rfl := zsome H
   go_wp2_with (first | ((with_reducible refine gate_store (p := 2) rfl ?_); refine ev_store rfl 0 0 HS (seg := [.int .i64 1, .string (⟨#[255]⟩ : ByteArray), .slice none 0 0]) rfl rfl rfl rfl rfl rfl (by kernel_rfl) (by simp [wrt]) (by simp [Value.oneCell']) ?_; clear HS; (try clear F); intro w4 HS; replace HS : Hp noFP w _ [.box g2 [.int .i64 1, .string (⟨#[255]⟩ : ByteArray), .slice none 0 0] 107] := HS; have F := HS.boxes; simp only [boxFacts, and_true] at F))
   replace HS := HS.nil 107 q107
   exact bodyPost_ret (results_single rfl (.cell _ _ _ _ _ rfl (HS.boxAt (i := 0) rfl) Try.underlying107 rfl (by kernel_rfl) .nil)) rfl ⟨_, rfl, HS.pick [1] (by decide) (by rfl)⟩
 · replace H := zneg c3 H
   replace c3 := eq_false_of_ne_true c3
   subst c3
   (try simp only [decide_true, decide_false, Bool.not_true, Bool.not_false, if_true, Bool.false_eq_true, if_false])
   obtain rfl := zsome H
   go_wp2_with (first | ((with_reducible refine gate_store (p := 2) rfl ?_); refine ev_store rfl 0 0 HS (seg := [.int .i64 1, .string (⟨#[0]⟩ : ByteArray), .slice none 0 0]) rfl rfl rfl rfl rfl rfl (by kernel_rfl) (by simp [wrt]) (by simp [Value.oneCell']) ?_; clear HS; (try clear F); intro w6 HS; replace HS : Hp noFP w _ [.box g2 [.int .i64 1, .string (⟨#[0]⟩ : ByteArray), .slice none 0 0] 107] := HS; have F := HS.boxes; simp only [boxFacts, and_true] at F))
   replace HS := HS.nil 107 q107
   exact bodyPost_ret (results_single rfl (.cell _ _ _ _ _ rfl (HS.boxAt (i := 0) rfl) Try.underlying107 rfl (by kernel_rfl) .nil)) rfl ⟨_, rfl, HS.pick [1] (by decide) (by rfl)⟩
/-! ### impl_copyItem: function 136 -/
mutual
def impl_copyItem.l0 : Nat → (List S107) → Int → S107 → Option (S107)
  | 0, _, _, _ => none
  | k + 1, l28, x30, a0 => (if x30 < (a0.f2.length : Int) then (if 0 ≤ x30 then (if x30 < (a0.f2.length : Int) then ((impl_copyItem.f k (rd_T107 a0.f2 x30)).bind fun t203001 => (if l28.length + 1 ≤ 2932031007402 then (lets (l28 ++ ([t203001] : List S107)) fun y205002 => (impl_copyItem.l0 k y205002 (wrap64 (x30 + 1)) a0)) else none)) else none) else none) else (some (⟨a0.f0, a0.f1, l28⟩ : S107)))
def impl_copyItem.f : Nat → S107 → Option (S107)
  | 0, _ => none
  | k + 1, a0 => (impl_copyItem.l0 k [] 0 a0)
end
def impl_copyItem.T5 : Bool × List (List Nat × List Nat) := (true, [([], []), ([0], [0]), ([], []), ([2], [2]), ([3], [3]), ([1, 4, 3], [1, 4]), ([0, 1, 2, 3, 4, 5], []), ([6, 5, 5, 0, 1, 2, 3, 4, 5], [5, 6])])
theorem impl_copyItem.tT5 : rtab .any (opsOf Try.f136 5) = impl_copyItem.T5 := by kernel_rfl
set_option maxHeartbeats 16000000 in
theorem impl_copyItem.calls_ (K : Nat) : ∀ {k : Nat} (hK : k ≤ K) {a0 : S107} {Ap0 : Option Addr} {np0 cp0 : Nat} {r : S107} {w : World} (h : impl_copyItem.f k a0 = some r) (gp0 : k107.C w Ap0 np0 a0.f2) (lp0 : np0 ≤ cp0),
    Calls Try.prog 136 #[.agg #[.int .i64 a0.f0, .string a0.f1, .slice Ap0 np0 cp0]] w (fun e w' => ∃ v0_ : Value, e = .returned (.agg #[.int .i64 r.f0, .string r.f1, v0_]) ∧ Hp noFP w w' [.own (Zd.slice 107 q107) r.f2 [v0_]]) := by
  induction K with
  | zero =>
    intro k hK a0 Ap0 np0 cp0 r w h gp0 lp0
    obtain rfl : k = 0 := by omega
    exact absurd h (by simp [impl_copyItem.f])
  | succ K IH =>
    intro k hK a0 Ap0 np0 cp0 r w h gp0 lp0
    cases k with
    | zero => exact absurd h (by simp [impl_copyItem.f])
    | succ k =>
    have HK0 : Aside0 (k ≤ K) := ⟨by omega⟩
    clear hK
    obtain rfl := C_len gp0
    have HS := Hp.start w
    have H := Aside0.mk h
    clear h
    simp only [impl_copyItem.f] at H
    go_enter Try.func136, Try.ntmps136
    go_wp2_with (first | ((with_reducible refine gate_dst (N := 1) rfl ?_); refine ev_box rfl HS (by first | (go_simp; done) | (go_simp; rfl)) rfl ?_; clear HS; (try clear F); intro g1 w1 HS; replace HS : Hp noFP w _ [.box g1 [.int .i64 a0.f0, .string a0.f1, .slice Ap0 a0.f2.length cp0] 107] := HS; have F := HS.boxes; simp only [boxFacts, and_true] at F) | ((with_reducible refine gate_dst (N := 2) rfl ?_); refine ev_box rfl HS (by first | (go_simp; done) | (go_simp; rfl)) rfl ?_; clear HS; (try clear F); intro g2 w2 HS; replace HS : Hp noFP w _ [.box g1 [.int .i64 a0.f0, .string a0.f1, .slice Ap0 a0.f2.length cp0] 107, .box g2 [.int .i64 0, .string (⟨#[]⟩ : ByteArray), .slice none 0 0] 107] := HS; have F := HS.boxes; simp only [boxFacts, and_true] at F) | ((with_reducible refine gate_dst (N := 3) rfl ?_); refine ev_box rfl HS (by first | (go_simp; done) | (go_simp; rfl)) rfl ?_; clear HS; (try clear F); intro g3 w3 HS; replace HS : Hp noFP w _ [.box g1 [.int .i64 a0.f0, .string a0.f1, .slice Ap0 a0.f2.length cp0] 107, .box g2 [.int .i64 0, .string (⟨#[]⟩ : ByteArray), .slice none 0 0] 107, .box g3 [.int .i64 0, .string (⟨#[]⟩ : ByteArray), .slice none 0 0] 107] := HS; have F := HS.boxes; simp only [boxFacts, and_true] at F) | ((with_reducible refine gate_store (p := 3) rfl ?_); refine ev_store rfl 2 0 HS (seg := [.int .i64 a0.f0, .string a0.f1, .slice none 0 0]) rfl rfl rfl rfl rfl rfl (by kernel_rfl) (by simp [wrt]) (by simp [Value.oneCell']) ?_; clear HS; (try clear F); intro w7 HS; replace HS : Hp noFP w _ [.box g1 [.int .i64 a0.f0, .string a0.f1, .slice Ap0 a0.f2.length cp0] 107, .box g2 [.int .i64 0, .string (⟨#[]⟩ : ByteArray), .slice none 0 0] 107, .box g3 [.int .i64 a0.f0, .string a0.f1, .slice none 0 0] 107] := HS; have F := HS.boxes; simp only [boxFacts, and_true] at F))
    replace HS := HS.nil 107 q107
    go_loopg [14] k (fun kq v_14 w' => ∃ (l28 : List S107) (v29 : Value) (x30 : Int), v_14 = .int .i64 x30 ∧ Aside0 (impl_copyItem.l0 kq l28 x30 a0 = some r) ∧ Aside0 (kq ≤ k) ∧ Hp noFP w w' [.box g1 [.int .i64 a0.f0, .string a0.f1, .slice Ap0 a0.f2.length cp0] 107, .box g2 [.int .i64 0, .string (⟨#[]⟩ : ByteArray), .slice none 0 0] 107, .box g3 [.int .i64 a0.f0, .string a0.f1, v29] 107, .own (Zd.slice 107 q107) l28 [v29]])
    case atStart => exact ⟨_, _, _, rfl, H, ⟨Nat.le_refl _⟩, HS⟩
    case round =>
     clear HS H; (try clear F)
     obtain ⟨l28, v29, x30, rfl, H, HKk27, HS⟩ := hrel
     obtain ⟨B29, d29, rfl, m29⟩ := HS.form 3 rfl
     have F := HS.boxes; simp only [boxFacts, and_true] at F
     cases gk with
     | zero => exact absurd H.out (by simp [impl_copyItem.l0])
     | succ k27 =>
      simp only [impl_copyItem.l0] at H
      by_cases c32 : x30 < (a0.f2.length : Int)
      · replace H := zpos c32 H
        replace c32 := eq_true c32
        by_cases c33 : 0 ≤ x30
        case neg => exact zno c33 H
        replace H := zpos c33 H
        replace c33 := eq_true c33
        by_cases c34 : x30 < (a0.f2.length : Int)
        case neg => exact zno c34 H
        replace H := zpos c34 H
        replace c34 := eq_true c34
        obtain ⟨ad35, B35_2, d35_2, rfl, e35_0, e35_1, e35_2, m35_2, y35_2⟩ := at_T107 gp0 x30 (of_eq_true c33) (of_eq_true c34)
        have e35_0_35 := (HS.keepc e35_0)
        have e35_1_35 := (HS.keepc e35_1)
        have e35_2_35 := (HS.keepc e35_2)
        go_wp2_with (first | ((with_reducible refine gate_dst (N := 5) rfl ?_); refine ev_box rfl HS (by first | (go_simp; done) | (go_simp; rfl)) rfl ?_; clear HS; (try clear F); intro g5 w5 HS; replace HS : Hp noFP w _ [.box g1 [.int .i64 a0.f0, .string a0.f1, .slice (some ad35) a0.f2.length cp0] 107, .box g2 [.int .i64 0, .string (⟨#[]⟩ : ByteArray), .slice none 0 0] 107, .box g3 [.int .i64 a0.f0, .string a0.f1, .slice B29 l28.length d29] 107, .own (Zd.slice 107 q107) l28 [.slice B29 l28.length d29], .box g5 [.int .i64 0, .string (⟨#[]⟩ : ByteArray), .slice none 0 0] 107] := HS; have F := HS.boxes; simp only [boxFacts, and_true] at F) | ((with_reducible refine gate_store (p := 5) rfl ?_); refine ev_store rfl 4 0 HS (seg := [.int .i64 ((rd_T107 a0.f2 x30).f0), .string ((rd_T107 a0.f2 x30).f1), .slice B35_2 (rd_T107 a0.f2 x30).f2.length d35_2]) rfl rfl rfl rfl rfl rfl (by kernel_rfl) (by simp [wrt]) (by simp [Value.oneCell']) ?_; clear HS; (try clear F); intro w38 HS; replace HS : Hp noFP w _ [.box g1 [.int .i64 a0.f0, .string a0.f1, .slice (some ad35) a0.f2.length cp0] 107, .box g2 [.int .i64 0, .string (⟨#[]⟩ : ByteArray), .slice none 0 0] 107, .box g3 [.int .i64 a0.f0, .string a0.f1, .slice B29 l28.length d29] 107, .own (Zd.slice 107 q107) l28 [.slice B29 l28.length d29], .box g5 [.int .i64 ((rd_T107 a0.f2 x30).f0), .string ((rd_T107 a0.f2 x30).f1), .slice B35_2 (rd_T107 a0.f2 x30).f2.length d35_2] 107] := HS; have F := HS.boxes; simp only [boxFacts, and_true] at F))
        replace H := zbind H; obtain ⟨t203001, ht203001, H⟩ := H
        by_cases c205001 : l28.length + 1 ≤ 2932031007402
        case neg => exact zno c205001 H
        replace H := zpos c205001 H
        replace c205001 := eq_true c205001
        replace H := zlets H; obtain ⟨y205002, e_y205002, H⟩ := H
        refine dr_start2 [.box g1 [.int .i64 a0.f0, .string a0.f1, .slice (some ad35) a0.f2.length cp0] 107, .box g2 [.int .i64 0, .string (⟨#[]⟩ : ByteArray), .slice none 0 0] 107, .box g3 [.int .i64 a0.f0, .string a0.f1, .slice B29 l28.length d29] 107, .emp, .box g5 [.int .i64 ((rd_T107 a0.f2 x30).f0), .string ((rd_T107 a0.f2 x30).f1), .slice B35_2 (rd_T107 a0.f2 x30).f2.length d35_2] 107] [7] HS (HS.arr [some 0, some 1, some 2, none, some 4] (by decide)) #[false, false, false, false, false, false, false, false] (by kernel_rfl) rfl rfl impl_copyItem.tT5 (fun w41 HT HS HH => ?_)
        (try clear F)
        refine drq_of [(0, some 18), (1, some 19), (2, some 20)] ?_
        repeat (first | (refine drq_pure HT (v := ?_) (a' := ?_) rfl rfl (by kernel_rfl) (fun _ _ _ h => h) (.inl ⟨by rfl, ?_⟩) ?_ ?_; rotate_left; (intro w'; go_simp; with_reducible rfl); rotate_left; (simp only [Act.put, List.setIfInBounds_toArray, List.set_cons_zero, List.set_cons_succ, i64_w, i32_w]; rfl)) | (refine drq_take HT HH (v := ?_) (a' := ?_) rfl rfl (by kernel_rfl) (fun _ _ _ h => h) (.inl ⟨by rfl, ?_⟩) ?_ ?_; rotate_left; (rintro w' ⟨rs', HS'⟩; have F := HS'.boxes; simp only [boxFacts, List.cons_append, List.nil_append, and_true] at F; go_simp; with_reducible rfl); rotate_left; (simp only [Act.put, List.setIfInBounds_toArray, List.set_cons_zero, List.set_cons_succ, i64_w, i32_w]; rfl)))
        refine drq_end ?_
        refine dr_one 3 HT rfl (by kernel_rfl) (by decide) (fun K hK => ?_)
        refine goes_ Try.func136 (by kernel_rfl) rfl #[.agg #[.int .i64 ((rd_T107 a0.f2 x30).f0), .string ((rd_T107 a0.f2 x30).f1), .slice B35_2 (rd_T107 a0.f2 x30).f2.length d35_2]] (by rfl) rfl rfl (by simp only [List.map_toArray, List.map_cons, List.map_nil]; rfl) ?_; refine (IH (by have := HK0.out; have := HKk27.out; omega) ht203001.out (HS.ro y35_2) m35_2).mono ?_; rintro _ wt203001 ⟨v203002, rfl, HQ⟩; refine ⟨_, rfl, ?_⟩; replace HS := HS.call HQ; clear HQ; (try clear F); obtain ⟨B203002, d203002, rfl, m203002⟩ := HS.form 5 rfl
        replace HS : Hp noFP w _ [.box g1 [.int .i64 a0.f0, .string a0.f1, .slice (some ad35) a0.f2.length cp0] 107, .box g2 [.int .i64 0, .string (⟨#[]⟩ : ByteArray), .slice none 0 0] 107, .box g3 [.int .i64 a0.f0, .string a0.f1, .slice B29 l28.length d29] 107, .own (Zd.slice 107 q107) l28 [.slice B29 l28.length d29], .box g5 [.int .i64 ((rd_T107 a0.f2 x30).f0), .string ((rd_T107 a0.f2 x30).f1), .slice B35_2 (rd_T107 a0.f2 x30).f2.length d35_2] 107, .own (Zd.slice 107 q107) t203001.f2 [.slice B203002 t203001.f2.length d203002]] := HS
        have F := HS.boxes; simp only [boxFacts, and_true] at F
        refine hK.out _ _ ⟨[], HS.arr [some 0, some 1, some 2, none, some 4] (by decide)⟩ (fun HH => ?_)
        clear hK K
        refine norm_ (a' := ?_) ?_ ?_
        rotate_left
        · show Act.put _ (some 21) _ = _; simp only [Act.put, List.setIfInBounds_toArray, List.set_cons_zero, List.set_cons_succ, i64_w, i32_w]; rfl
        refine dr_one 4 HT rfl (by kernel_rfl) (by decide) (fun K hK => ?_)
        refine if_wp (by rfl) ?_; refine wp_lit q107 [5] ([t203001] : List S107) ([.int .i64 t203001.f0, .string t203001.f1, .slice B203002 t203001.f2.length d203002] ++ []) HS (by first | (go_simp; done) | (go_simp; rfl)) rfl rfl (Nat.le_of_ble_eq_true rfl) (MadeL.cons (js1 := [5]) (c := [.int .i64 t203001.f0, .string t203001.f1, .slice B203002 t203001.f2.length d203002]) rfl (fun S hd hh => q107_pack (x := t203001) hd (hh 5 (.own (Zd.slice 107 q107) t203001.f2 [.slice B203002 t203001.f2.length d203002]) rfl) (by decide)) MadeL.nil (by decide)) ?_; clear HS; (try clear F); intro v204001 w204001 HS; obtain ⟨B204001, d204001, rfl, m204001⟩ := HS.formn 1 6 rfl rfl
        replace HS : Hp noFP w _ [.box g1 [.int .i64 a0.f0, .string a0.f1, .slice (some ad35) a0.f2.length cp0] 107, .box g2 [.int .i64 0, .string (⟨#[]⟩ : ByteArray), .slice none 0 0] 107, .box g3 [.int .i64 a0.f0, .string a0.f1, .slice B29 l28.length d29] 107, .own (Zd.slice 107 q107) l28 [.slice B29 l28.length d29], .box g5 [.int .i64 ((rd_T107 a0.f2 x30).f0), .string ((rd_T107 a0.f2 x30).f1), .slice B35_2 (rd_T107 a0.f2 x30).f2.length d35_2] 107, .emp, .own (Zd.slice 107 q107) ([t203001] : List S107) [.slice B204001 1 d204001]] := HS
        have F := HS.boxes; simp only [boxFacts, and_true] at F
        refine hK.out _ _ ⟨[], HS.arr [some 0, some 1, some 2, none, some 4] (by decide)⟩ (fun HH => ?_)
        clear hK K
        refine norm_ (a' := ?_) ?_ ?_
        rotate_left
        · show Act.put _ (some 22) _ = _; simp only [Act.put, List.setIfInBounds_toArray, List.set_cons_zero, List.set_cons_succ, i64_w, i32_w]; rfl
        refine dr_one 5 HT rfl (by kernel_rfl) (by decide) (fun K hK => ?_)
        refine if_wp (by rfl) ?_; refine wp_append q107 3 6 HS rfl rfl (by decide) rfl rfl rfl Try.underlying105 info107 rfl (by decide) (by decide) (by have := of_eq_true c205001; first | omega | (simp only [List.length_cons, List.length_nil, List.length_append, Nat.zero_add] at this ⊢; omega)) ?_; clear HS; (try clear F); intro v205002 w205002 HS; rw [← e_y205002.out] at HS; obtain ⟨B205002, d205002, rfl, m205002⟩ := HS.form 7 rfl
        replace HS : Hp noFP w _ [.box g1 [.int .i64 a0.f0, .string a0.f1, .slice (some ad35) a0.f2.length cp0] 107, .box g2 [.int .i64 0, .string (⟨#[]⟩ : ByteArray), .slice none 0 0] 107, .box g3 [.int .i64 a0.f0, .string a0.f1, .slice B29 l28.length d29] 107, .emp, .box g5 [.int .i64 ((rd_T107 a0.f2 x30).f0), .string ((rd_T107 a0.f2 x30).f1), .slice B35_2 (rd_T107 a0.f2 x30).f2.length d35_2] 107, .emp, .emp, .own (Zd.slice 107 q107) y205002 [.slice B205002 y205002.length d205002]] := HS
        have F := HS.boxes; simp only [boxFacts, and_true] at F
        refine hK.out _ _ ⟨[], HS.arr [some 0, some 1, some 2, none, some 4] (by decide)⟩ (fun HH => ?_)
        clear hK K
        refine norm_ (a' := ?_) ?_ ?_
        rotate_left
        · show Act.put _ (some 23) _ = _; simp only [Act.put, List.setIfInBounds_toArray, List.set_cons_zero, List.set_cons_succ, i64_w, i32_w]; rfl
        refine drq_of [(6, some 24)] ?_
        repeat (first | (refine drq_pure HT (v := ?_) (a' := ?_) rfl rfl (by kernel_rfl) (fun _ _ _ h => h) (.inl ⟨by rfl, ?_⟩) ?_ ?_; rotate_left; (intro w'; go_simp; with_reducible rfl); rotate_left; (simp only [Act.put, List.setIfInBounds_toArray, List.set_cons_zero, List.set_cons_succ, i64_w, i32_w]; rfl)))
        refine drq_end ?_
        refine dr_last 7 HT rfl (by kernel_rfl) (by decide) (fun K hK => ?_)
        refine if_wp (by rfl) ?_; refine wp_store 2 2 HS (seg := [.slice B205002 y205002.length d205002]) rfl rfl rfl rfl rfl rfl (by kernel_rfl) (by simp [wrt]) (by simp [Value.oneCell']) ?_; clear HS; (try clear F); intro w207001 HS
        replace HS : Hp noFP w _ [.box g1 [.int .i64 a0.f0, .string a0.f1, .slice (some ad35) a0.f2.length cp0] 107, .box g2 [.int .i64 0, .string (⟨#[]⟩ : ByteArray), .slice none 0 0] 107, .box g3 [.int .i64 a0.f0, .string a0.f1, .slice B205002 y205002.length d205002] 107, .emp, .box g5 [.int .i64 ((rd_T107 a0.f2 x30).f0), .string ((rd_T107 a0.f2 x30).f1), .slice B35_2 (rd_T107 a0.f2 x30).f2.length d35_2] 107, .emp, .emp, .own (Zd.slice 107 q107) y205002 [.slice B205002 y205002.length d205002]] := HS
        have F := HS.boxes; simp only [boxFacts, and_true] at F
        refine hK.out _ _ ?_
        clear hK K
        refine done_ (done_of HT.out (by kernel_rfl)) ?_
        (try clear F)
        have F := HS.boxes; simp only [boxFacts, and_true] at F
        go_wp2
        go_roundg k27
        case measure => have := HK0.out; have := HKk27.out; omega
        case rel => exact ⟨_, _, _, rfl, H, ⟨by have := HK0.out; have := HKk27.out; omega⟩, HS.pick [0, 1, 2, 7] (by decide) (by rfl)⟩
      · replace H := zneg c32 H
        replace c32 := eq_false c32
        obtain rfl := zsome H
        go_wp2_with (first | ((with_reducible refine gate_store (p := 2) rfl ?_); refine ev_store rfl 1 0 HS (seg := [.int .i64 a0.f0, .string a0.f1, .slice B29 l28.length d29]) rfl rfl rfl rfl rfl rfl (by kernel_rfl) (by simp [wrt]) (by simp [Value.oneCell']) ?_; clear HS; (try clear F); intro w43 HS; replace HS : Hp noFP w _ [.box g1 [.int .i64 a0.f0, .string a0.f1, .slice Ap0 a0.f2.length cp0] 107, .box g2 [.int .i64 a0.f0, .string a0.f1, .slice B29 l28.length d29] 107, .box g3 [.int .i64 a0.f0, .string a0.f1, .slice B29 l28.length d29] 107, .own (Zd.slice 107 q107) l28 [.slice B29 l28.length d29]] := HS; have F := HS.boxes; simp only [boxFacts, and_true] at F))
        exact bodyPost_ret (results_single rfl (.cell _ _ _ _ _ rfl (HS.boxAt (i := 1) rfl) Try.underlying107 rfl (by kernel_rfl) .nil)) rfl ⟨_, rfl, HS.pick [3] (by decide) (by rfl)⟩
theorem impl_copyItem.calls {k : Nat} {a0 : S107} {Ap0 : Option Addr} {np0 cp0 : Nat} {r : S107} {w : World} (h : impl_copyItem.f k a0 = some r) (gp0 : k107.C w Ap0 np0 a0.f2) (lp0 : np0 ≤ cp0) :
    Calls Try.prog 136 #[.agg #[.int .i64 a0.f0, .string a0.f1, .slice Ap0 np0 cp0]] w (fun e w' => ∃ v0_ : Value, e = .returned (.agg #[.int .i64 r.f0, .string r.f1, v0_]) ∧ Hp noFP w w' [.own (Zd.slice 107 q107) r.f2 [v0_]]) := impl_copyItem.calls_ k (Nat.le_refl k) h gp0 lp0
/-! ### impl_ListItem: function 73 -/
def impl_ListItem.l0 : Nat → (List S107) → Int → (List S107) → Option (S107)
  | 0, _, _, _ => none
  | k + 1, l26, x28, a0 => (if x28 < (a0.length : Int) then (if 0 ≤ x28 then (if x28 < (a0.length : Int) then ((impl_copyItem.f k (rd_T107 a0 x28)).bind fun t203001 => (if l26.length + 1 ≤ 2932031007402 then (lets (l26 ++ ([t203001] : List S107)) fun y205002 => (impl_ListItem.l0 k y205002 (wrap64 (x28 + 1)) a0)) else none)) else none) else none) else (some (⟨48, (⟨#[]⟩ : ByteArray), l26⟩ : S107)))
def impl_ListItem.f (k : Nat) (a0 : (List S107)) : Option (S107) := (impl_ListItem.l0 k [] 0 a0)
def impl_ListItem.T5 : Bool × List (List Nat × List Nat) := (true, [([], []), ([0], [0]), ([], []), ([2], [2]), ([3], [3]), ([1, 4, 3], [1, 4]), ([0, 1, 2, 3, 4, 5], []), ([6, 5, 5, 0, 1, 2, 3, 4, 5], [5, 6])])
theorem impl_ListItem.tT5 : rtab .any (opsOf Try.f73 5) = impl_ListItem.T5 := by kernel_rfl
set_option maxHeartbeats 16000000 in
theorem impl_ListItem.calls {k : Nat} {a0 : (List S107)} {Ap0 : Option Addr} {np0 cp0 : Nat} {r : S107} {w : World} (h : impl_ListItem.f k a0 = some r) (gp0 : k107.C w Ap0 np0 a0) (lp0 : np0 ≤ cp0) :
    Calls Try.prog 73 #[.slice Ap0 np0 cp0] w (fun e w' => ∃ v0_ : Value, e = .returned (.agg #[.int .i64 r.f0, .string r.f1, v0_]) ∧ Hp noFP w w' [.own (Zd.slice 107 q107) r.f2 [v0_]]) := by
 obtain rfl := C_len gp0
 have HS := Hp.start w
 have H := Aside0.mk h
 clear h
 unfold impl_ListItem.f at H
 go_enter Try.func73, Try.ntmps73
 go_wp2_with (first | ((with_reducible refine gate_dst (N := 2) rfl ?_); refine ev_box rfl HS (by first | (go_simp; done) | (go_simp; rfl)) rfl ?_; clear HS; (try clear F); intro g2 w2 HS; replace HS : Hp noFP w _ [.box g2 [.int .i64 0, .string (⟨#[]⟩ : ByteArray), .slice none 0 0] 107] := HS; have F := HS.boxes; simp only [boxFacts, and_true] at F) | ((with_reducible refine gate_dst (N := 3) rfl ?_); refine ev_box rfl HS (by first | (go_simp; done) | (go_simp; rfl)) rfl ?_; clear HS; (try clear F); intro g3 w3 HS; replace HS : Hp noFP w _ [.box g2 [.int .i64 0, .string (⟨#[]⟩ : ByteArray), .slice none 0 0] 107, .box g3 [.int .i64 0, .string (⟨#[]⟩ : ByteArray), .slice none 0 0] 107] := HS; have F := HS.boxes; simp only [boxFacts, and_true] at F) | ((with_reducible refine gate_store (p := 3) rfl ?_); refine ev_store rfl 1 0 HS (seg := [.int .i64 48, .string (⟨#[]⟩ : ByteArray), .slice none 0 0]) rfl rfl rfl rfl rfl rfl (by kernel_rfl) (by simp [wrt]) (by simp [Value.oneCell']) ?_; clear HS; (try clear F); intro w5 HS; replace HS : Hp noFP w _ [.box g2 [.int .i64 0, .string (⟨#[]⟩ : ByteArray), .slice none 0 0] 107, .box g3 [.int .i64 48, .string (⟨#[]⟩ : ByteArray), .slice none 0 0] 107] := HS; have F := HS.boxes; simp only [boxFacts, and_true] at F))
 replace HS := HS.nil 107 q107
 go_loopg [9] k (fun kq v_9 w' => ∃ (l26 : List S107) (v27 : Value) (x28 : Int), v_9 = .int .i64 x28 ∧ Aside0 (impl_ListItem.l0 kq l26 x28 a0 = some r) ∧ Aside0 (kq ≤ k) ∧ Hp noFP w w' [.box g2 [.int .i64 0, .string (⟨#[]⟩ : ByteArray), .slice none 0 0] 107, .box g3 [.int .i64 48, .string (⟨#[]⟩ : ByteArray), v27] 107, .own (Zd.slice 107 q107) l26 [v27]])
 case atStart => exact ⟨_, _, _, rfl, H, ⟨Nat.le_refl _⟩, HS⟩
 case round =>
  clear HS H; (try clear F)
  obtain ⟨l26, v27, x28, rfl, H, HKk25, HS⟩ := hrel
  obtain ⟨B27, d27, rfl, m27⟩ := HS.form 2 rfl
  have F := HS.boxes; simp only [boxFacts, and_true] at F
  cases gk with
  | zero => exact absurd H.out (by simp [impl_ListItem.l0])
  | succ k25 =>
   simp only [impl_ListItem.l0] at H
   by_cases c30 : x28 < (a0.length : Int)
   · replace H := zpos c30 H
     replace c30 := eq_true c30
     by_cases c31 : 0 ≤ x28
     case neg => exact zno c31 H
     replace H := zpos c31 H
     replace c31 := eq_true c31
     by_cases c32 : x28 < (a0.length : Int)
     case neg => exact zno c32 H
     replace H := zpos c32 H
     replace c32 := eq_true c32
     obtain ⟨ad33, B33_2, d33_2, rfl, e33_0, e33_1, e33_2, m33_2, y33_2⟩ := at_T107 gp0 x28 (of_eq_true c31) (of_eq_true c32)
     have e33_0_33 := (HS.keepc e33_0)
     have e33_1_33 := (HS.keepc e33_1)
     have e33_2_33 := (HS.keepc e33_2)
     go_wp2_with (first | ((with_reducible refine gate_dst (N := 5) rfl ?_); refine ev_box rfl HS (by first | (go_simp; done) | (go_simp; rfl)) rfl ?_; clear HS; (try clear F); intro g5 w5 HS; replace HS : Hp noFP w _ [.box g2 [.int .i64 0, .string (⟨#[]⟩ : ByteArray), .slice none 0 0] 107, .box g3 [.int .i64 48, .string (⟨#[]⟩ : ByteArray), .slice B27 l26.length d27] 107, .own (Zd.slice 107 q107) l26 [.slice B27 l26.length d27], .box g5 [.int .i64 0, .string (⟨#[]⟩ : ByteArray), .slice none 0 0] 107] := HS; have F := HS.boxes; simp only [boxFacts, and_true] at F) | ((with_reducible refine gate_store (p := 5) rfl ?_); refine ev_store rfl 3 0 HS (seg := [.int .i64 ((rd_T107 a0 x28).f0), .string ((rd_T107 a0 x28).f1), .slice B33_2 (rd_T107 a0 x28).f2.length d33_2]) rfl rfl rfl rfl rfl rfl (by kernel_rfl) (by simp [wrt]) (by simp [Value.oneCell']) ?_; clear HS; (try clear F); intro w36 HS; replace HS : Hp noFP w _ [.box g2 [.int .i64 0, .string (⟨#[]⟩ : ByteArray), .slice none 0 0] 107, .box g3 [.int .i64 48, .string (⟨#[]⟩ : ByteArray), .slice B27 l26.length d27] 107, .own (Zd.slice 107 q107) l26 [.slice B27 l26.length d27], .box g5 [.int .i64 ((rd_T107 a0 x28).f0), .string ((rd_T107 a0 x28).f1), .slice B33_2 (rd_T107 a0 x28).f2.length d33_2] 107] := HS; have F := HS.boxes; simp only [boxFacts, and_true] at F))
     replace H := zbind H; obtain ⟨t203001, ht203001, H⟩ := H
     by_cases c205001 : l26.length + 1 ≤ 2932031007402
     case neg => exact zno c205001 H
     replace H := zpos c205001 H
     replace c205001 := eq_true c205001
     replace H := zlets H; obtain ⟨y205002, e_y205002, H⟩ := H
     refine dr_start2 [.box g2 [.int .i64 0, .string (⟨#[]⟩ : ByteArray), .slice none 0 0] 107, .box g3 [.int .i64 48, .string (⟨#[]⟩ : ByteArray), .slice B27 l26.length d27] 107, .emp, .box g5 [.int .i64 ((rd_T107 a0 x28).f0), .string ((rd_T107 a0 x28).f1), .slice B33_2 (rd_T107 a0 x28).f2.length d33_2] 107] [7] HS (HS.arr [some 0, some 1, none, some 3] (by decide)) #[false, false, false, false, false, false, false, false] (by kernel_rfl) rfl rfl impl_ListItem.tT5 (fun w39 HT HS HH => ?_)
     (try clear F)
     refine drq_of [(0, some 13), (1, some 14), (2, some 15)] ?_
     repeat (first | (refine drq_pure HT (v := ?_) (a' := ?_) rfl rfl (by kernel_rfl) (fun _ _ _ h => h) (.inl ⟨by rfl, ?_⟩) ?_ ?_; rotate_left; (intro w'; go_simp; with_reducible rfl); rotate_left; (simp only [Act.put, List.setIfInBounds_toArray, List.set_cons_zero, List.set_cons_succ, i64_w, i32_w]; rfl)) | (refine drq_take HT HH (v := ?_) (a' := ?_) rfl rfl (by kernel_rfl) (fun _ _ _ h => h) (.inl ⟨by rfl, ?_⟩) ?_ ?_; rotate_left; (rintro w' ⟨rs', HS'⟩; have F := HS'.boxes; simp only [boxFacts, List.cons_append, List.nil_append, and_true] at F; go_simp; with_reducible rfl); rotate_left; (simp only [Act.put, List.setIfInBounds_toArray, List.set_cons_zero, List.set_cons_succ, i64_w, i32_w]; rfl)))
     refine drq_end ?_
     refine dr_one 3 HT rfl (by kernel_rfl) (by decide) (fun K hK => ?_)
     refine goes_ Try.func136 (by kernel_rfl) rfl #[.agg #[.int .i64 ((rd_T107 a0 x28).f0), .string ((rd_T107 a0 x28).f1), .slice B33_2 (rd_T107 a0 x28).f2.length d33_2]] (by rfl) rfl rfl (by simp only [List.map_toArray, List.map_cons, List.map_nil]; rfl) ?_; refine (impl_copyItem.calls ht203001.out (HS.ro y33_2) m33_2).mono ?_; rintro _ wt203001 ⟨v203002, rfl, HQ⟩; refine ⟨_, rfl, ?_⟩; replace HS := HS.call HQ; clear HQ; (try clear F); obtain ⟨B203002, d203002, rfl, m203002⟩ := HS.form 4 rfl
     replace HS : Hp noFP w _ [.box g2 [.int .i64 0, .string (⟨#[]⟩ : ByteArray), .slice none 0 0] 107, .box g3 [.int .i64 48, .string (⟨#[]⟩ : ByteArray), .slice B27 l26.length d27] 107, .own (Zd.slice 107 q107) l26 [.slice B27 l26.length d27], .box g5 [.int .i64 ((rd_T107 a0 x28).f0), .string ((rd_T107 a0 x28).f1), .slice B33_2 (rd_T107 a0 x28).f2.length d33_2] 107, .own (Zd.slice 107 q107) t203001.f2 [.slice B203002 t203001.f2.length d203002]] := HS
     have F := HS.boxes; simp only [boxFacts, and_true] at F
     refine hK.out _ _ ⟨[], HS.arr [some 0, some 1, none, some 3] (by decide)⟩ (fun HH => ?_)
     clear hK K
     refine norm_ (a' := ?_) ?_ ?_
     rotate_left
     · show Act.put _ (some 16) _ = _; simp only [Act.put, List.setIfInBounds_toArray, List.set_cons_zero, List.set_cons_succ, i64_w, i32_w]; rfl
     refine dr_one 4 HT rfl (by kernel_rfl) (by decide) (fun K hK => ?_)
     refine if_wp (by rfl) ?_; refine wp_lit q107 [4] ([t203001] : List S107) ([.int .i64 t203001.f0, .string t203001.f1, .slice B203002 t203001.f2.length d203002] ++ []) HS (by first | (go_simp; done) | (go_simp; rfl)) rfl rfl (Nat.le_of_ble_eq_true rfl) (MadeL.cons (js1 := [4]) (c := [.int .i64 t203001.f0, .string t203001.f1, .slice B203002 t203001.f2.length d203002]) rfl (fun S hd hh => q107_pack (x := t203001) hd (hh 4 (.own (Zd.slice 107 q107) t203001.f2 [.slice B203002 t203001.f2.length d203002]) rfl) (by decide)) MadeL.nil (by decide)) ?_; clear HS; (try clear F); intro v204001 w204001 HS; obtain ⟨B204001, d204001, rfl, m204001⟩ := HS.formn 1 5 rfl rfl
     replace HS : Hp noFP w _ [.box g2 [.int .i64 0, .string (⟨#[]⟩ : ByteArray), .slice none 0 0] 107, .box g3 [.int .i64 48, .string (⟨#[]⟩ : ByteArray), .slice B27 l26.length d27] 107, .own (Zd.slice 107 q107) l26 [.slice B27 l26.length d27], .box g5 [.int .i64 ((rd_T107 a0 x28).f0), .string ((rd_T107 a0 x28).f1), .slice B33_2 (rd_T107 a0 x28).f2.length d33_2] 107, .emp, .own (Zd.slice 107 q107) ([t203001] : List S107) [.slice B204001 1 d204001]] := HS
     have F := HS.boxes; simp only [boxFacts, and_true] at F
     refine hK.out _ _ ⟨[], HS.arr [some 0, some 1, none, some 3] (by decide)⟩ (fun HH => ?_)
     clear hK K
     refine norm_ (a' := ?_) ?_ ?_
     rotate_left
     · show Act.put _ (some 17) _ = _; simp only [Act.put, List.setIfInBounds_toArray, List.set_cons_zero, List.set_cons_succ, i64_w, i32_w]; rfl
     refine dr_one 5 HT rfl (by kernel_rfl) (by decide) (fun K hK => ?_)
     refine if_wp (by rfl) ?_; refine wp_append q107 2 5 HS rfl rfl (by decide) rfl rfl rfl Try.underlying105 info107 rfl (by decide) (by decide) (by have := of_eq_true c205001; first | omega | (simp only [List.length_cons, List.length_nil, List.length_append, Nat.zero_add] at this ⊢; omega)) ?_; clear HS; (try clear F); intro v205002 w205002 HS; rw [← e_y205002.out] at HS; obtain ⟨B205002, d205002, rfl, m205002⟩ := HS.form 6 rfl
     replace HS : Hp noFP w _ [.box g2 [.int .i64 0, .string (⟨#[]⟩ : ByteArray), .slice none 0 0] 107, .box g3 [.int .i64 48, .string (⟨#[]⟩ : ByteArray), .slice B27 l26.length d27] 107, .emp, .box g5 [.int .i64 ((rd_T107 a0 x28).f0), .string ((rd_T107 a0 x28).f1), .slice B33_2 (rd_T107 a0 x28).f2.length d33_2] 107, .emp, .emp, .own (Zd.slice 107 q107) y205002 [.slice B205002 y205002.length d205002]] := HS
     have F := HS.boxes; simp only [boxFacts, and_true] at F
     refine hK.out _ _ ⟨[], HS.arr [some 0, some 1, none, some 3] (by decide)⟩ (fun HH => ?_)
     clear hK K
     refine norm_ (a' := ?_) ?_ ?_
     rotate_left
     · show Act.put _ (some 18) _ = _; simp only [Act.put, List.setIfInBounds_toArray, List.set_cons_zero, List.set_cons_succ, i64_w, i32_w]; rfl
     refine drq_of [(6, some 19)] ?_
     repeat (first | (refine drq_pure HT (v := ?_) (a' := ?_) rfl rfl (by kernel_rfl) (fun _ _ _ h => h) (.inl ⟨by rfl, ?_⟩) ?_ ?_; rotate_left; (intro w'; go_simp; with_reducible rfl); rotate_left; (simp only [Act.put, List.setIfInBounds_toArray, List.set_cons_zero, List.set_cons_succ, i64_w, i32_w]; rfl)))
     refine drq_end ?_
     refine dr_last 7 HT rfl (by kernel_rfl) (by decide) (fun K hK => ?_)
     refine if_wp (by rfl) ?_; refine wp_store 1 2 HS (seg := [.slice B205002 y205002.length d205002]) rfl rfl rfl rfl rfl rfl (by kernel_rfl) (by simp [wrt]) (by simp [Value.oneCell']) ?_; clear HS; (try clear F); intro w207001 HS
     replace HS : Hp noFP w _ [.box g2 [.int .i64 0, .string (⟨#[]⟩ : ByteArray), .slice none 0 0] 107, .box g3 [.int .i64 48, .string (⟨#[]⟩ : ByteArray), .slice B205002 y205002.length d205002] 107, .emp, .box g5 [.int .i64 ((rd_T107 a0 x28).f0), .string ((rd_T107 a0 x28).f1), .slice B33_2 (rd_T107 a0 x28).f2.length d33_2] 107, .emp, .emp, .own (Zd.slice 107 q107) y205002 [.slice B205002 y205002.length d205002]] := HS
     have F := HS.boxes; simp only [boxFacts, and_true] at F
     refine hK.out _ _ ?_
     clear hK K
     refine done_ (done_of HT.out (by kernel_rfl)) ?_
     (try clear F)
     have F := HS.boxes; simp only [boxFacts, and_true] at F
     go_wp2
     go_roundg k25
     case measure => have := HKk25.out; omega
     case rel => exact ⟨_, _, _, rfl, H, ⟨by have := HKk25.out; omega⟩, HS.pick [0, 1, 6] (by decide) (by rfl)⟩
   · replace H := zneg c30 H
     replace c30 := eq_false c30
     obtain rfl := zsome H
     go_wp2_with (first | ((with_reducible refine gate_store (p := 2) rfl ?_); refine ev_store rfl 0 0 HS (seg := [.int .i64 48, .string (⟨#[]⟩ : ByteArray), .slice B27 l26.length d27]) rfl rfl rfl rfl rfl rfl (by kernel_rfl) (by simp [wrt]) (by simp [Value.oneCell']) ?_; clear HS; (try clear F); intro w41 HS; replace HS : Hp noFP w _ [.box g2 [.int .i64 48, .string (⟨#[]⟩ : ByteArray), .slice B27 l26.length d27] 107, .box g3 [.int .i64 48, .string (⟨#[]⟩ : ByteArray), .slice B27 l26.length d27] 107, .own (Zd.slice 107 q107) l26 [.slice B27 l26.length d27]] := HS; have F := HS.boxes; simp only [boxFacts, and_true] at F))
     exact bodyPost_ret (results_single rfl (.cell _ _ _ _ _ rfl (HS.boxAt (i := 0) rfl) Try.underlying107 rfl (by kernel_rfl) .nil)) rfl ⟨_, rfl, HS.pick [2] (by decide) (by rfl)⟩
/-! ### impl_AskText: function 95 -/
def impl_AskText.f (k : Nat) (a0 : S67) : Option (ByteArray × Bool) := ((impl_AskOk.f k a0).bind fun t3 => (if t3 = true then ((impl_each_string_0.f k a0.f0).bind fun t102001 => ((impl_IntItem.f k a0.f1).bind fun t105001 => ((impl_IntItem.f k a0.f2).bind fun t108001 => ((impl_IntItem.f k a0.f3).bind fun t111001 => ((impl_IntItem.f k a0.f4).bind fun t114001 => ((impl_boolItem.f a0.f5).bind fun t117001 => ((impl_ListItem.f k ([t102001, t105001, t108001, t111001, t114001, t117001] : List S107)).bind fun t119001 => ((impl_ItemText.f k t119001).bind fun t120001 => (some (t120001.1, t120001.2)))))))))) else (some ((⟨#[]⟩ : ByteArray), false))))
def impl_AskText.T3 : Bool × List (List Nat × List Nat) := (true, [([], []), ([0], [0]), ([1], [1]), ([], []), ([3], [3]), ([4, 2], [4]), ([], []), ([6], [6]), ([7, 5], [7]), ([], []), ([9], [9]), ([10, 8], [10]), ([], []), ([12], [12]), ([13, 11], [13]), ([], []), ([15], [15]), ([16, 14], [16]), ([2, 5, 8, 11, 14, 17], [2, 5, 8, 11, 14, 17]), ([18, 17], [18]), ([19, 19], [19]), ([20], [20]), ([20], [20]), ([21, 20, 0, 1, 2, 3, 4, 5, 6, 7, 8, 9, 10, 11, 12, 13, 14, 15, 16, 17, 18, 19, 20, 21, 22], [21]), ([22, 23, 0, 1, 2, 3, 4, 5, 6, 7, 8, 9, 10, 11, 12, 13, 14, 15, 16, 17, 18, 19, 20, 21, 22, 23], [22])])
theorem impl_AskText.tT3 : rtab .any (opsOf Try.f95 3) = impl_AskText.T3 := by kernel_rfl
set_option maxHeartbeats 16000000 in
theorem impl_AskText.calls {k : Nat} {a0 : S67} {Ap0 : Option Addr} {np0 cp0 : Nat} {r1 : ByteArray} {r2 : Bool} {w : World} (h : impl_AskText.f k a0 = some (r1, r2)) (gp0 : Kd.string.C w Ap0 np0 a0.f0) (lp0 : np0 ≤ cp0) :
    Calls Try.prog 95 #[.agg #[.slice Ap0 np0 cp0, .int .i64 a0.f1, .int .i64 a0.f2, .int .i64 a0.f3, .int .i64 a0.f4, .bool a0.f5]] w (fun e w' => e = .returned (.tuple #[.string r1, .bool r2]) ∧ Hp noFP w w' []) := by
 obtain rfl := C_len gp0
 have HS := Hp.start w
 have H := Aside0.mk h
 clear h
 unfold impl_AskText.f at H
 go_enter Try.func95, Try.ntmps95
 replace H := zbind H; obtain ⟨t3, ht3, H⟩ := H
 go_upto_if 6 with (first | ((with_reducible refine gate_dst (N := 1) rfl ?_); refine ev_box rfl HS (by first | (go_simp; done) | (go_simp; rfl)) rfl ?_; clear HS; (try clear F); intro g1 w1 HS; replace HS : Hp noFP w _ [.box g1 [.slice Ap0 a0.f0.length cp0, .int .i64 a0.f1, .int .i64 a0.f2, .int .i64 a0.f3, .int .i64 a0.f4, .bool a0.f5] 67] := HS; have F := HS.boxes; simp only [boxFacts, and_true] at F) | ((with_reducible refine gate_dst (N := 5) rfl ?_); refine ev_call rfl Try.func147 (by kernel_rfl) rfl #[.agg #[.slice Ap0 a0.f0.length cp0, .int .i64 a0.f1, .int .i64 a0.f2, .int .i64 a0.f3, .int .i64 a0.f4, .bool a0.f5]] rfl (by simp only [List.map_toArray, List.map_cons, List.map_nil]; rfl) ?_; refine (impl_AskOk.calls ht3.out (HS.ro gp0) lp0).mono ?_; rintro _ wt3 ⟨rfl, HQ⟩; refine ⟨_, rfl, ?_⟩; replace HS := HS.call HQ; clear HQ; (try clear F); replace HS : Hp noFP w _ [.box g1 [.slice Ap0 a0.f0.length cp0, .int .i64 a0.f1, .int .i64 a0.f2, .int .i64 a0.f3, .int .i64 a0.f4, .bool a0.f5] 67] := HS; have F := HS.boxes; simp only [boxFacts, and_true] at F))
 by_cases c5 : t3 = true
 · replace H := zpos c5 H
   subst c5
   (try simp only [decide_true, decide_false, Bool.not_true, Bool.not_false, if_true, Bool.false_eq_true, if_false])
   (try go_wp2)
   replace H := zbind H; obtain ⟨t102001, ht102001, H⟩ := H
   replace H := zbind H; obtain ⟨t105001, ht105001, H⟩ := H
   replace H := zbind H; obtain ⟨t108001, ht108001, H⟩ := H
   replace H := zbind H; obtain ⟨t111001, ht111001, H⟩ := H
   replace H := zbind H; obtain ⟨t114001, ht114001, H⟩ := H
   replace H := zbind H; obtain ⟨t117001, ht117001, H⟩ := H
   replace H := zbind H; obtain ⟨t119001, ht119001, H⟩ := H
   replace H := zbind H; obtain ⟨t120001, ht120001, H⟩ := H
   refine dr_start [] HS #[false, false, false, false, false, false, false, false, false, false, false, false, false, false, false, false, false, false, false, false, false, false, false, false, false] (by kernel_rfl) rfl rfl impl_AskText.tT3 (fun w7 HT HS HH => ?_)
   (try clear F)
   refine drq_of [(0, some 7), (1, some 8), (3, some 10), (4, some 11), (6, some 13), (7, some 14), (9, some 16), (10, some 17), (12, some 19), (13, some 20), (15, some 22), (16, some 23)] ?_
   repeat (first | (refine drq_pure HT (v := ?_) (a' := ?_) rfl rfl (by kernel_rfl) (fun _ _ _ h => h) (.inl ⟨by rfl, ?_⟩) ?_ ?_; rotate_left; (intro w'; go_simp; with_reducible rfl); rotate_left; (simp only [Act.put, List.setIfInBounds_toArray, List.set_cons_zero, List.set_cons_succ, i64_w, i32_w]; rfl)) | (refine drq_take HT HH (v := ?_) (a' := ?_) rfl rfl (by kernel_rfl) (fun _ _ _ h => h) (.inl ⟨by rfl, ?_⟩) ?_ ?_; rotate_left; (rintro w' ⟨rs', HS'⟩; have F := HS'.boxes; simp only [boxFacts, List.cons_append, List.nil_append, and_true] at F; go_simp; with_reducible rfl); rotate_left; (simp only [Act.put, List.setIfInBounds_toArray, List.set_cons_zero, List.set_cons_succ, i64_w, i32_w]; rfl)))
   refine drq_end ?_
   refine dr_one 2 HT rfl (by kernel_rfl) (by decide) (fun K hK => ?_)
   refine goes_ Try.func128 (by kernel_rfl) rfl #[.slice Ap0 a0.f0.length cp0, .func (.func 74) #[] #[]] (by rfl) rfl rfl (by simp only [List.map_toArray, List.map_cons, List.map_nil]; rfl) ?_; refine (impl_each_string_0.calls ht102001.out (HS.ro gp0) lp0).mono ?_; rintro _ wt102001 ⟨v102002, rfl, HQ⟩; refine ⟨_, rfl, ?_⟩; replace HS := HS.call HQ; clear HQ; (try clear F); obtain ⟨B102002, d102002, rfl, m102002⟩ := HS.form 1 rfl
   replace HS : Hp noFP w _ [.box g1 [.slice Ap0 a0.f0.length cp0, .int .i64 a0.f1, .int .i64 a0.f2, .int .i64 a0.f3, .int .i64 a0.f4, .bool a0.f5] 67, .own (Zd.slice 107 q107) t102001.f2 [.slice B102002 t102001.f2.length d102002]] := HS
   have F := HS.boxes; simp only [boxFacts, and_true] at F
   refine hK.out _ _ ⟨_, HS⟩ (fun HH => ?_)
   clear hK K
   refine norm_ (a' := ?_) ?_ ?_
   rotate_left
   · show Act.put _ (some 9) _ = _; simp only [Act.put, List.setIfInBounds_toArray, List.set_cons_zero, List.set_cons_succ, i64_w, i32_w]; rfl
   refine dr_one 5 HT rfl (by kernel_rfl) (by decide) (fun K hK => ?_)
   refine goes_ Try.func127 (by kernel_rfl) rfl #[.int .i64 a0.f1] (by rfl) rfl rfl (by simp only [List.map_toArray, List.map_cons, List.map_nil]; rfl) ?_; refine (impl_IntItem.calls ht105001.out).mono ?_; rintro _ wt105001 ⟨v105002, rfl, HQ⟩; refine ⟨_, rfl, ?_⟩; replace HS := HS.call HQ; clear HQ; (try clear F); obtain ⟨B105002, d105002, rfl, m105002⟩ := HS.form 2 rfl
   replace HS : Hp noFP w _ [.box g1 [.slice Ap0 a0.f0.length cp0, .int .i64 a0.f1, .int .i64 a0.f2, .int .i64 a0.f3, .int .i64 a0.f4, .bool a0.f5] 67, .own (Zd.slice 107 q107) t102001.f2 [.slice B102002 t102001.f2.length d102002], .own (Zd.slice 107 q107) t105001.f2 [.slice B105002 t105001.f2.length d105002]] := HS
   have F := HS.boxes; simp only [boxFacts, and_true] at F
   refine hK.out _ _ ⟨_, HS⟩ (fun HH => ?_)
   clear hK K
   refine norm_ (a' := ?_) ?_ ?_
   rotate_left
   · show Act.put _ (some 12) _ = _; simp only [Act.put, List.setIfInBounds_toArray, List.set_cons_zero, List.set_cons_succ, i64_w, i32_w]; rfl
   refine dr_one 8 HT rfl (by kernel_rfl) (by decide) (fun K hK => ?_)
   refine goes_ Try.func127 (by kernel_rfl) rfl #[.int .i64 a0.f2] (by rfl) rfl rfl (by simp only [List.map_toArray, List.map_cons, List.map_nil]; rfl) ?_; refine (impl_IntItem.calls ht108001.out).mono ?_; rintro _ wt108001 ⟨v108002, rfl, HQ⟩; refine ⟨_, rfl, ?_⟩; replace HS := HS.call HQ; clear HQ; (try clear F); obtain ⟨B108002, d108002, rfl, m108002⟩ := HS.form 3 rfl
   replace HS : Hp noFP w _ [.box g1 [.slice Ap0 a0.f0.length cp0, .int .i64 a0.f1, .int .i64 a0.f2, .int .i64 a0.f3, .int .i64 a0.f4, .bool a0.f5] 67, .own (Zd.slice 107 q107) t102001.f2 [.slice B102002 t102001.f2.length d102002], .own (Zd.slice 107 q107) t105001.f2 [.slice B105002 t105001.f2.length d105002], .own (Zd.slice 107 q107) t108001.f2 [.slice B108002 t108001.f2.length d108002]] := HS
   have F := HS.boxes; simp only [boxFacts, and_true] at F
   refine hK.out _ _ ⟨_, HS⟩ (fun HH => ?_)
   clear hK K
   refine norm_ (a' := ?_) ?_ ?_
   rotate_left
   · show Act.put _ (some 15) _ = _; simp only [Act.put, List.setIfInBounds_toArray, List.set_cons_zero, List.set_cons_succ, i64_w, i32_w]; rfl
   refine dr_one 11 HT rfl (by kernel_rfl) (by decide) (fun K hK => ?_)
   refine goes_ Try.func127 (by kernel_rfl) rfl #[.int .i64 a0.f3] (by rfl) rfl rfl (by simp only [List.map_toArray, List.map_cons, List.map_nil]; rfl) ?_; refine (impl_IntItem.calls ht111001.out).mono ?_; rintro _ wt111001 ⟨v111002, rfl, HQ⟩; refine ⟨_, rfl, ?_⟩; replace HS := HS.call HQ; clear HQ; (try clear F); obtain ⟨B111002, d111002, rfl, m111002⟩ := HS.form 4 rfl
   replace HS : Hp noFP w _ [.box g1 [.slice Ap0 a0.f0.length cp0, .int .i64 a0.f1, .int .i64 a0.f2, .int .i64 a0.f3, .int .i64 a0.f4, .bool a0.f5] 67, .own (Zd.slice 107 q107) t102001.f2 [.slice B102002 t102001.f2.length d102002], .own (Zd.slice 107 q107) t105001.f2 [.slice B105002 t105001.f2.length d105002], .own (Zd.slice 107 q107) t108001.f2 [.slice B108002 t108001.f2.length d108002], .own (Zd.slice 107 q107) t111001.f2 [.slice B111002 t111001.f2.length d111002]] := HS
   have F := HS.boxes; simp only [boxFacts, and_true] at F
   refine hK.out _ _ ⟨_, HS⟩ (fun HH => ?_)
   clear hK K
   refine norm_ (a' := ?_) ?_ ?_
   rotate_left
   · show Act.put _ (some 18) _ = _; simp only [Act.put, List.setIfInBounds_toArray, List.set_cons_zero, List.set_cons_succ, i64_w, i32_w]; rfl
   refine dr_one 14 HT rfl (by kernel_rfl) (by decide) (fun K hK => ?_)
   refine goes_ Try.func127 (by kernel_rfl) rfl #[.int .i64 a0.f4] (by rfl) rfl rfl (by simp only [List.map_toArray, List.map_cons, List.map_nil]; rfl) ?_; refine (impl_IntItem.calls ht114001.out).mono ?_; rintro _ wt114001 ⟨v114002, rfl, HQ⟩; refine ⟨_, rfl, ?_⟩; replace HS := HS.call HQ; clear HQ; (try clear F); obtain ⟨B114002, d114002, rfl, m114002⟩ := HS.form 5 rfl
   replace HS : Hp noFP w _ [.box g1 [.slice Ap0 a0.f0.length cp0, .int .i64 a0.f1, .int .i64 a0.f2, .int .i64 a0.f3, .int .i64 a0.f4, .bool a0.f5] 67, .own (Zd.slice 107 q107) t102001.f2 [.slice B102002 t102001.f2.length d102002], .own (Zd.slice 107 q107) t105001.f2 [.slice B105002 t105001.f2.length d105002], .own (Zd.slice 107 q107) t108001.f2 [.slice B108002 t108001.f2.length d108002], .own (Zd.slice 107 q107) t111001.f2 [.slice B111002 t111001.f2.length d111002], .own (Zd.slice 107 q107) t114001.f2 [.slice B114002 t114001.f2.length d114002]] := HS
   have F := HS.boxes; simp only [boxFacts, and_true] at F
   refine hK.out _ _ ⟨_, HS⟩ (fun HH => ?_)
   clear hK K
   refine norm_ (a' := ?_) ?_ ?_
   rotate_left
   · show Act.put _ (some 21) _ = _; simp only [Act.put, List.setIfInBounds_toArray, List.set_cons_zero, List.set_cons_succ, i64_w, i32_w]; rfl
   refine dr_one 17 HT rfl (by kernel_rfl) (by decide) (fun K hK => ?_)
   refine goes_ Try.func148 (by kernel_rfl) rfl #[.bool a0.f5] (by rfl) rfl rfl (by simp only [List.map_toArray, List.map_cons, List.map_nil]; rfl) ?_; refine (impl_boolItem.calls ht117001.out).mono ?_; rintro _ wt117001 ⟨v117002, rfl, HQ⟩; refine ⟨_, rfl, ?_⟩; replace HS := HS.call HQ; clear HQ; (try clear F); obtain ⟨B117002, d117002, rfl, m117002⟩ := HS.form 6 rfl
   replace HS : Hp noFP w _ [.box g1 [.slice Ap0 a0.f0.length cp0, .int .i64 a0.f1, .int .i64 a0.f2, .int .i64 a0.f3, .int .i64 a0.f4, .bool a0.f5] 67, .own (Zd.slice 107 q107) t102001.f2 [.slice B102002 t102001.f2.length d102002], .own (Zd.slice 107 q107) t105001.f2 [.slice B105002 t105001.f2.length d105002], .own (Zd.slice 107 q107) t108001.f2 [.slice B108002 t108001.f2.length d108002], .own (Zd.slice 107 q107) t111001.f2 [.slice B111002 t111001.f2.length d111002], .own (Zd.slice 107 q107) t114001.f2 [.slice B114002 t114001.f2.length d114002], .own (Zd.slice 107 q107) t117001.f2 [.slice B117002 t117001.f2.length d117002]] := HS
   have F := HS.boxes; simp only [boxFacts, and_true] at F
   refine hK.out _ _ ⟨_, HS⟩ (fun HH => ?_)
   clear hK K
   refine norm_ (a' := ?_) ?_ ?_
   rotate_left
   · show Act.put _ (some 24) _ = _; simp only [Act.put, List.setIfInBounds_toArray, List.set_cons_zero, List.set_cons_succ, i64_w, i32_w]; rfl
   refine dr_one 18 HT rfl (by kernel_rfl) (by decide) (fun K hK => ?_)
   refine if_wp (by rfl) ?_; refine wp_lit q107 [1, 2, 3, 4, 5, 6] ([t102001, t105001, t108001, t111001, t114001, t117001] : List S107) ([.int .i64 t102001.f0, .string t102001.f1, .slice B102002 t102001.f2.length d102002] ++ ([.int .i64 t105001.f0, .string t105001.f1, .slice B105002 t105001.f2.length d105002] ++ ([.int .i64 t108001.f0, .string t108001.f1, .slice B108002 t108001.f2.length d108002] ++ ([.int .i64 t111001.f0, .string t111001.f1, .slice B111002 t111001.f2.length d111002] ++ ([.int .i64 t114001.f0, .string t114001.f1, .slice B114002 t114001.f2.length d114002] ++ ([.int .i64 t117001.f0, .string t117001.f1, .slice B117002 t117001.f2.length d117002] ++ [])))))) HS (by first | (go_simp; done) | (go_simp; rfl)) rfl rfl (Nat.le_of_ble_eq_true rfl) (MadeL.cons (js1 := [1]) (c := [.int .i64 t102001.f0, .string t102001.f1, .slice B102002 t102001.f2.length d102002]) rfl (fun S hd hh => q107_pack (x := t102001) hd (hh 1 (.own (Zd.slice 107 q107) t102001.f2 [.slice B102002 t102001.f2.length d102002]) rfl) (by decide)) (MadeL.cons (js1 := [2]) (c := [.int .i64 t105001.f0, .string t105001.f1, .slice B105002 t105001.f2.length d105002]) rfl (fun S hd hh => q107_pack (x := t105001) hd (hh 2 (.own (Zd.slice 107 q107) t105001.f2 [.slice B105002 t105001.f2.length d105002]) rfl) (by decide)) (MadeL.cons (js1 := [3]) (c := [.int .i64 t108001.f0, .string t108001.f1, .slice B108002 t108001.f2.length d108002]) rfl (fun S hd hh => q107_pack (x := t108001) hd (hh 3 (.own (Zd.slice 107 q107) t108001.f2 [.slice B108002 t108001.f2.length d108002]) rfl) (by decide)) (MadeL.cons (js1 := [4]) (c := [.int .i64 t111001.f0, .string t111001.f1, .slice B111002 t111001.f2.length d111002]) rfl (fun S hd hh => q107_pack (x := t111001) hd (hh 4 (.own (Zd.slice 107 q107) t111001.f2 [.slice B111002 t111001.f2.length d111002]) rfl) (by decide)) (MadeL.cons (js1 := [5]) (c := [.int .i64 t114001.f0, .string t114001.f1, .slice B114002 t114001.f2.length d114002]) rfl (fun S hd hh => q107_pack (x := t114001) hd (hh 5 (.own (Zd.slice 107 q107) t114001.f2 [.slice B114002 t114001.f2.length d114002]) rfl) (by decide)) (MadeL.cons (js1 := [6]) (c := [.int .i64 t117001.f0, .string t117001.f1, .slice B117002 t117001.f2.length d117002]) rfl (fun S hd hh => q107_pack (x := t117001) hd (hh 6 (.own (Zd.slice 107 q107) t117001.f2 [.slice B117002 t117001.f2.length d117002]) rfl) (by decide)) MadeL.nil (by decide)) (by decide)) (by decide)) (by decide)) (by decide)) (by decide)) ?_; clear HS; (try clear F); intro v118001 w118001 HS; obtain ⟨B118001, d118001, rfl, m118001⟩ := HS.formn 6 7 rfl rfl
   replace HS : Hp noFP w _ [.box g1 [.slice Ap0 a0.f0.length cp0, .int .i64 a0.f1, .int .i64 a0.f2, .int .i64 a0.f3, .int .i64 a0.f4, .bool a0.f5] 67, .emp, .emp, .emp, .emp, .emp, .emp, .own (Zd.slice 107 q107) ([t102001, t105001, t108001, t111001, t114001, t117001] : List S107) [.slice B118001 6 d118001]] := HS
   have F := HS.boxes; simp only [boxFacts, and_true] at F
   refine hK.out _ _ ⟨_, HS⟩ (fun HH => ?_)
   clear hK K
   refine norm_ (a' := ?_) ?_ ?_
   rotate_left
   · show Act.put _ (some 25) _ = _; simp only [Act.put, List.setIfInBounds_toArray, List.set_cons_zero, List.set_cons_succ, i64_w, i32_w]; rfl
   refine dr_one 19 HT rfl (by kernel_rfl) (by decide) (fun K hK => ?_)
   refine goes_ Try.func73 (by kernel_rfl) rfl #[.slice B118001 6 d118001] (by rfl) rfl rfl (by simp only [List.map_toArray, List.map_cons, List.map_nil]; rfl) ?_; refine (impl_ListItem.calls ht119001.out (HS.rd 7 rfl) m118001).mono ?_; rintro _ wt119001 ⟨v119002, rfl, HQ⟩; refine ⟨_, rfl, ?_⟩; replace HS := HS.call HQ; clear HQ; (try clear F); obtain ⟨B119002, d119002, rfl, m119002⟩ := HS.form 8 rfl
   replace HS : Hp noFP w _ [.box g1 [.slice Ap0 a0.f0.length cp0, .int .i64 a0.f1, .int .i64 a0.f2, .int .i64 a0.f3, .int .i64 a0.f4, .bool a0.f5] 67, .emp, .emp, .emp, .emp, .emp, .emp, .own (Zd.slice 107 q107) ([t102001, t105001, t108001, t111001, t114001, t117001] : List S107) [.slice B118001 6 d118001], .own (Zd.slice 107 q107) t119001.f2 [.slice B119002 t119001.f2.length d119002]] := HS
   have F := HS.boxes; simp only [boxFacts, and_true] at F
   refine hK.out _ _ ⟨_, HS⟩ (fun HH => ?_)
   clear hK K
   refine norm_ (a' := ?_) ?_ ?_
   rotate_left
   · show Act.put _ (some 26) _ = _; simp only [Act.put, List.setIfInBounds_toArray, List.set_cons_zero, List.set_cons_succ, i64_w, i32_w]; rfl
   refine dr_one 20 HT rfl (by kernel_rfl) (by decide) (fun K hK => ?_)
   refine goes_ Try.func67 (by kernel_rfl) rfl #[.agg #[.int .i64 t119001.f0, .string t119001.f1, .slice B119002 t119001.f2.length d119002]] (by rfl) rfl rfl (by simp only [List.map_toArray, List.map_cons, List.map_nil]; rfl) ?_; refine (impl_ItemText.calls ht120001.out (HS.rd 8 rfl) m119002).mono ?_; rintro _ wt120001 ⟨rfl, HQ⟩; refine ⟨_, rfl, ?_⟩; replace HS := HS.call HQ; clear HQ; (try clear F)
   replace HS : Hp noFP w _ [.box g1 [.slice Ap0 a0.f0.length cp0, .int .i64 a0.f1, .int .i64 a0.f2, .int .i64 a0.f3, .int .i64 a0.f4, .bool a0.f5] 67, .emp, .emp, .emp, .emp, .emp, .emp, .own (Zd.slice 107 q107) ([t102001, t105001, t108001, t111001, t114001, t117001] : List S107) [.slice B118001 6 d118001], .own (Zd.slice 107 q107) t119001.f2 [.slice B119002 t119001.f2.length d119002]] := HS
   have F := HS.boxes; simp only [boxFacts, and_true] at F
   refine hK.out _ _ ⟨_, HS⟩ (fun HH => ?_)
   clear hK K
   refine norm_ (a' := ?_) ?_ ?_
   rotate_left
   · show Act.put _ (some 27) _ = _; simp only [Act.put, List.setIfInBounds_toArray, List.set_cons_zero, List.set_cons_succ, i64_w, i32_w]; rfl
   refine drq_of [(21, some 28), (22, some 29), (23, some 2), (24, some 3)] ?_
   repeat (first | (refine drq_pure HT (v := ?_) (a' := ?_) rfl rfl (by kernel_rfl) (fun _ _ _ h => h) (.inl ⟨by rfl, ?_⟩) ?_ ?_; rotate_left; (intro w'; go_simp; with_reducible rfl); rotate_left; (simp only [Act.put, List.setIfInBounds_toArray, List.set_cons_zero, List.set_cons_succ, i64_w, i32_w]; rfl)))
   refine drq_end ?_
   refine done_ (done_of HT.out (by kernel_rfl)) ?_
   (try clear F)
   have F := HS.boxes; simp only [boxFacts, and_true] at F
   obtain ⟨rfl, rfl⟩ := zsome2 H
   go_wp2
   exact bodyPost_ret (results_list (rs := [.tmp 2, .tmp 3]) rfl (by simp) (.tmp (.tmp .nil))) rfl ⟨rfl, HS.pick [] (by decide) (by rfl)⟩
 · replace H := zneg c5 H
   replace c5 := eq_false_of_ne_true c5
   subst c5
   (try simp only [decide_true, decide_false, Bool.not_true, Bool.not_false, if_true, Bool.false_eq_true, if_false])
   obtain ⟨rfl, rfl⟩ := zsome2 H
   go_wp2
   exact bodyPost_ret (results_list (rs := [.tmp 2, .tmp 3]) rfl (by simp) (.tmp (.tmp .nil))) rfl ⟨rfl, HS.pick [] (by decide) (by rfl)⟩
end Go.Proofs.Ytdcjcanobiohnaa.F
