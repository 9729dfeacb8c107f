/- Functions of the program and of the law, and that their calls do what is written here. -/
import Derived.Test.YtdcjcanobiohnaaZgFnExactReplyTexta
import Derived.Test.YtdcjcanobiohnaaZgFnExactReplyTextc
import Derived.Test.YtdcjcanobiohnaaZgFnExactReplyTextd
import Derived.Test.YtdcjcanobiohnaaZgFnExactReplyTexte
namespace Go.Proofs.Ytdcjcanobiohnaa.F
open Go.RowKit Go.Proofs.YtdcjcanobiohnaaW.PrintWords Go.Proofs.YtdcjcanobiohnaaW.PrintLast Go.Proofs.YtdcjcanobiohnaaW.PrintMore Go.Proofs.Ytdcjcanobiohnaa.Z
attribute [local go_sem] max2_int min2_int max_two min_two max_three min_three max_four min_four
set_option linter.unusedVariables false
set_option linter.unusedSimpArgs false
set_option maxRecDepth 100000
/-! ### impl_ReplyOk: function 72 -/
def impl_ReplyOk.f (k : Nat) (a0 : S49) : Option (Bool) := (if (a0.f0.size : Int) = 32 then ((impl_within.f a0.f1 0 1000000000).bind fun t4 => (if t4 = true then ((impl_within.f a0.f2 0 19999).bind fun t7 => (if t7 = true then ((impl_within.f a0.f3 0 19999).bind fun t10 => (if t10 = true then ((impl_within.f a0.f4 0 99).bind fun t13 => (if t13 = true then ((impl_within.f a0.f5 0 2).bind fun t16 => (if t16 = true then (if 3 < (a0.f6.length : Int) then (some false) else (if (a0.f7.size : Int) = 15 then ((impl_Answer_133_0.f k a0.f6).bind fun t21 => (some (!t21))) else (some false))) else (some false))) else (some false))) else (some false))) else (some false))) else (some false))) else (some false))
set_option maxHeartbeats 16000000 in
theorem impl_ReplyOk.calls {k : Nat} {a0 : S49} {Ap0 : Option Addr} {np0 cp0 : Nat} {r : Bool} {w : World} (h : impl_ReplyOk.f k a0 = some r) (gp0 : k171.C w Ap0 np0 a0.f6) (lp0 : np0 ≤ cp0) :
    Calls Try.prog 72 #[.agg #[.string a0.f0, .int .i64 a0.f1, .int .i64 a0.f2, .int .i64 a0.f3, .int .i64 a0.f4, .int .i64 a0.f5, .slice Ap0 np0 cp0, .string a0.f7]] w (fun e w' => e = .returned (.bool r) ∧ Hp noFP w w' []) := by
 obtain rfl := C_len gp0
 have HS := Hp.start w
 have H := Aside0.mk h
 clear h
 unfold impl_ReplyOk.f at H
 go_enter Try.func72, Try.ntmps72
 by_cases c3 : (a0.f0.size : Int) = 32
 · replace H := zpos c3 H
   have c3a := beq_iff_eq.mpr c3
   have c3b := bne_eq_false_iff_eq.mpr c3
   clear c3
   obtain ⟨t4, ht4, H⟩ := zbind H
   by_cases c6 : t4 = true
   · replace H := zpos c6 H
     obtain ⟨t7, ht7, H⟩ := zbind H
     by_cases c9 : t7 = true
     · replace H := zpos c9 H
       obtain ⟨t10, ht10, H⟩ := zbind H
       by_cases c12 : t10 = true
       · replace H := zpos c12 H
         obtain ⟨t13, ht13, H⟩ := zbind H
         by_cases c15 : t13 = true
         · replace H := zpos c15 H
           obtain ⟨t16, ht16, H⟩ := zbind H
           by_cases c18 : t16 = true
           · replace H := zpos c18 H
             by_cases c19 : 3 < (a0.f6.length : Int)
             · replace H := zpos c19 H
               replace c19 := eq_true c19
               obtain rfl := zsome H
               go_wp2_with (first | ((with_reducible refine gate_dst (N := 1) rfl ?_); refine ev_box rfl HS (by first | (go_simp; done) | (go_simp; rfl)) rfl ?_; clear HS; (try clear F); intro g1 w1 HS; replace HS : Hp noFP w _ [.box g1 [.string a0.f0, .int .i64 a0.f1, .int .i64 a0.f2, .int .i64 a0.f3, .int .i64 a0.f4, .int .i64 a0.f5, .slice Ap0 a0.f6.length cp0, .string a0.f7] 49] := HS; have F := HS.boxes; simp only [boxFacts, and_true] at F) | ((with_reducible refine gate_dst (N := 10) rfl ?_); refine gate_guard (by rfl) ?_; refine ev_call rfl Try.func132 (by kernel_rfl) rfl #[.int .i64 a0.f1, .int .i64 0, .int .i64 1000000000] rfl (by simp only [List.map_toArray, List.map_cons, List.map_nil]; rfl) ?_; refine (impl_within.calls ht4.out).mono ?_; rintro _ wt4 ⟨rfl, HQ⟩; refine ⟨_, rfl, ?_⟩; replace HS := HS.call HQ; clear HQ; (try clear F); replace HS : Hp noFP w _ [.box g1 [.string a0.f0, .int .i64 a0.f1, .int .i64 a0.f2, .int .i64 a0.f3, .int .i64 a0.f4, .int .i64 a0.f5, .slice Ap0 a0.f6.length cp0, .string a0.f7] 49] := HS; have F := HS.boxes; simp only [boxFacts, and_true] at F; (try simp only [c6])) | ((with_reducible refine gate_dst (N := 16) rfl ?_); refine gate_guard (by rfl) ?_; refine ev_call rfl Try.func132 (by kernel_rfl) rfl #[.int .i64 a0.f2, .int .i64 0, .int .i64 19999] rfl (by simp only [List.map_toArray, List.map_cons, List.map_nil]; rfl) ?_; refine (impl_within.calls ht7.out).mono ?_; rintro _ wt7 ⟨rfl, HQ⟩; refine ⟨_, rfl, ?_⟩; replace HS := HS.call HQ; clear HQ; (try clear F); replace HS : Hp noFP w _ [.box g1 [.string a0.f0, .int .i64 a0.f1, .int .i64 a0.f2, .int .i64 a0.f3, .int .i64 a0.f4, .int .i64 a0.f5, .slice Ap0 a0.f6.length cp0, .string a0.f7] 49] := HS; have F := HS.boxes; simp only [boxFacts, and_true] at F; (try simp only [c9])) | ((with_reducible refine gate_dst (N := 22) rfl ?_); refine gate_guard (by rfl) ?_; refine ev_call rfl Try.func132 (by kernel_rfl) rfl #[.int .i64 a0.f3, .int .i64 0, .int .i64 19999] rfl (by simp only [List.map_toArray, List.map_cons, List.map_nil]; rfl) ?_; refine (impl_within.calls ht10.out).mono ?_; rintro _ wt10 ⟨rfl, HQ⟩; refine ⟨_, rfl, ?_⟩; replace HS := HS.call HQ; clear HQ; (try clear F); replace HS : Hp noFP w _ [.box g1 [.string a0.f0, .int .i64 a0.f1, .int .i64 a0.f2, .int .i64 a0.f3, .int .i64 a0.f4, .int .i64 a0.f5, .slice Ap0 a0.f6.length cp0, .string a0.f7] 49] := HS; have F := HS.boxes; simp only [boxFacts, and_true] at F; (try simp only [c12])) | ((with_reducible refine gate_dst (N := 28) rfl ?_); refine gate_guard (by rfl) ?_; refine ev_call rfl Try.func132 (by kernel_rfl) rfl #[.int .i64 a0.f4, .int .i64 0, .int .i64 99] rfl (by simp only [List.map_toArray, List.map_cons, List.map_nil]; rfl) ?_; refine (impl_within.calls ht13.out).mono ?_; rintro _ wt13 ⟨rfl, HQ⟩; refine ⟨_, rfl, ?_⟩; replace HS := HS.call HQ; clear HQ; (try clear F); replace HS : Hp noFP w _ [.box g1 [.string a0.f0, .int .i64 a0.f1, .int .i64 a0.f2, .int .i64 a0.f3, .int .i64 a0.f4, .int .i64 a0.f5, .slice Ap0 a0.f6.length cp0, .string a0.f7] 49] := HS; have F := HS.boxes; simp only [boxFacts, and_true] at F; (try simp only [c15])) | ((with_reducible refine gate_dst (N := 34) rfl ?_); refine gate_guard (by rfl) ?_; refine ev_call rfl Try.func132 (by kernel_rfl) rfl #[.int .i64 a0.f5, .int .i64 0, .int .i64 2] rfl (by simp only [List.map_toArray, List.map_cons, List.map_nil]; rfl) ?_; refine (impl_within.calls ht16.out).mono ?_; rintro _ wt16 ⟨rfl, HQ⟩; refine ⟨_, rfl, ?_⟩; replace HS := HS.call HQ; clear HQ; (try clear F); replace HS : Hp noFP w _ [.box g1 [.string a0.f0, .int .i64 a0.f1, .int .i64 a0.f2, .int .i64 a0.f3, .int .i64 a0.f4, .int .i64 a0.f5, .slice Ap0 a0.f6.length cp0, .string a0.f7] 49] := HS; have F := HS.boxes; simp only [boxFacts, and_true] at F; (try simp only [c18])))
               go_ret
               exact ⟨rfl, HS.pick [] (by decide) (by rfl)⟩
             · replace H := zneg c19 H
               replace c19 := eq_false c19
               go_upto_if 48 with (first | ((with_reducible refine gate_dst (N := 1) rfl ?_); refine ev_box rfl HS (by first | (go_simp; done) | (go_simp; rfl)) rfl ?_; clear HS; (try clear F); intro g1 w1 HS; replace HS : Hp noFP w _ [.box g1 [.string a0.f0, .int .i64 a0.f1, .int .i64 a0.f2, .int .i64 a0.f3, .int .i64 a0.f4, .int .i64 a0.f5, .slice Ap0 a0.f6.length cp0, .string a0.f7] 49] := HS; have F := HS.boxes; simp only [boxFacts, and_true] at F) | ((with_reducible refine gate_dst (N := 10) rfl ?_); refine gate_guard (by rfl) ?_; refine ev_call rfl Try.func132 (by kernel_rfl) rfl #[.int .i64 a0.f1, .int .i64 0, .int .i64 1000000000] rfl (by simp only [List.map_toArray, List.map_cons, List.map_nil]; rfl) ?_; refine (impl_within.calls ht4.out).mono ?_; rintro _ wt4 ⟨rfl, HQ⟩; refine ⟨_, rfl, ?_⟩; replace HS := HS.call HQ; clear HQ; (try clear F); replace HS : Hp noFP w _ [.box g1 [.string a0.f0, .int .i64 a0.f1, .int .i64 a0.f2, .int .i64 a0.f3, .int .i64 a0.f4, .int .i64 a0.f5, .slice Ap0 a0.f6.length cp0, .string a0.f7] 49] := HS; have F := HS.boxes; simp only [boxFacts, and_true] at F; (try simp only [c6])) | ((with_reducible refine gate_dst (N := 16) rfl ?_); refine gate_guard (by rfl) ?_; refine ev_call rfl Try.func132 (by kernel_rfl) rfl #[.int .i64 a0.f2, .int .i64 0, .int .i64 19999] rfl (by simp only [List.map_toArray, List.map_cons, List.map_nil]; rfl) ?_; refine (impl_within.calls ht7.out).mono ?_; rintro _ wt7 ⟨rfl, HQ⟩; refine ⟨_, rfl, ?_⟩; replace HS := HS.call HQ; clear HQ; (try clear F); replace HS : Hp noFP w _ [.box g1 [.string a0.f0, .int .i64 a0.f1, .int .i64 a0.f2, .int .i64 a0.f3, .int .i64 a0.f4, .int .i64 a0.f5, .slice Ap0 a0.f6.length cp0, .string a0.f7] 49] := HS; have F := HS.boxes; simp only [boxFacts, and_true] at F; (try simp only [c9])) | ((with_reducible refine gate_dst (N := 22) rfl ?_); refine gate_guard (by rfl) ?_; refine ev_call rfl Try.func132 (by kernel_rfl) rfl #[.int .i64 a0.f3, .int .i64 0, .int .i64 19999] rfl (by simp only [List.map_toArray, List.map_cons, List.map_nil]; rfl) ?_; refine (impl_within.calls ht10.out).mono ?_; rintro _ wt10 ⟨rfl, HQ⟩; refine ⟨_, rfl, ?_⟩; replace HS := HS.call HQ; clear HQ; (try clear F); replace HS : Hp noFP w _ [.box g1 [.string a0.f0, .int .i64 a0.f1, .int .i64 a0.f2, .int .i64 a0.f3, .int .i64 a0.f4, .int .i64 a0.f5, .slice Ap0 a0.f6.length cp0, .string a0.f7] 49] := HS; have F := HS.boxes; simp only [boxFacts, and_true] at F; (try simp only [c12])) | ((with_reducible refine gate_dst (N := 28) rfl ?_); refine gate_guard (by rfl) ?_; refine ev_call rfl Try.func132 (by kernel_rfl) rfl #[.int .i64 a0.f4, .int .i64 0, .int .i64 99] rfl (by simp only [List.map_toArray, List.map_cons, List.map_nil]; rfl) ?_; refine (impl_within.calls ht13.out).mono ?_; rintro _ wt13 ⟨rfl, HQ⟩; refine ⟨_, rfl, ?_⟩; replace HS := HS.call HQ; clear HQ; (try clear F); replace HS : Hp noFP w _ [.box g1 [.string a0.f0, .int .i64 a0.f1, .int .i64 a0.f2, .int .i64 a0.f3, .int .i64 a0.f4, .int .i64 a0.f5, .slice Ap0 a0.f6.length cp0, .string a0.f7] 49] := HS; have F := HS.boxes; simp only [boxFacts, and_true] at F; (try simp only [c15])) | ((with_reducible refine gate_dst (N := 34) rfl ?_); refine gate_guard (by rfl) ?_; refine ev_call rfl Try.func132 (by kernel_rfl) rfl #[.int .i64 a0.f5, .int .i64 0, .int .i64 2] rfl (by simp only [List.map_toArray, List.map_cons, List.map_nil]; rfl) ?_; refine (impl_within.calls ht16.out).mono ?_; rintro _ wt16 ⟨rfl, HQ⟩; refine ⟨_, rfl, ?_⟩; replace HS := HS.call HQ; clear HQ; (try clear F); replace HS : Hp noFP w _ [.box g1 [.string a0.f0, .int .i64 a0.f1, .int .i64 a0.f2, .int .i64 a0.f3, .int .i64 a0.f4, .int .i64 a0.f5, .slice Ap0 a0.f6.length cp0, .string a0.f7] 49] := HS; have F := HS.boxes; simp only [boxFacts, and_true] at F; (try simp only [c18])))
               by_cases c20 : (a0.f7.size : Int) = 15
               · replace H := zpos c20 H
                 have c20a := beq_iff_eq.mpr c20
                 have c20b := bne_eq_false_iff_eq.mpr c20
                 clear c20
                 (try simp only [c20a, c20b, decide_true, decide_false, Bool.not_true, Bool.not_false])
                 obtain ⟨t21, ht21, H⟩ := zbind H
                 obtain rfl := zsome H
                 go_wp2_with (first | ((with_reducible refine gate_dst (N := 51) rfl ?_); refine ev_call rfl Try.func133 (by kernel_rfl) rfl #[.slice Ap0 a0.f6.length cp0, .func (.func 134) #[] #[]] rfl (by simp only [List.map_toArray, List.map_cons, List.map_nil]; rfl) ?_; refine (impl_Answer_133_0.calls ht21.out (HS.ro gp0) lp0).mono ?_; rintro _ wt21 ⟨rfl, HQ⟩; refine ⟨_, rfl, ?_⟩; replace HS := HS.call HQ; clear HQ; (try clear F); replace HS : Hp noFP w _ [.box g1 [.string a0.f0, .int .i64 a0.f1, .int .i64 a0.f2, .int .i64 a0.f3, .int .i64 a0.f4, .int .i64 a0.f5, .slice Ap0 a0.f6.length cp0, .string a0.f7] 49] := HS; have F := HS.boxes; simp only [boxFacts, and_true] at F))
                 go_ret
                 exact ⟨rfl, HS.pick [] (by decide) (by rfl)⟩
               · replace H := zneg c20 H
                 have c20a := beq_eq_false_iff_ne.mpr c20
                 have c20b := bne_iff_ne.mpr c20
                 clear c20
                 (try simp only [c20a, c20b, decide_true, decide_false, Bool.not_true, Bool.not_false])
                 obtain rfl := zsome H
                 go_wp2
                 go_ret
                 exact ⟨rfl, HS.pick [] (by decide) (by rfl)⟩
           · replace H := zneg c18 H
             replace c18 := eq_false_of_ne_true c18
             obtain rfl := zsome H
             go_wp2_with (first | ((with_reducible refine gate_dst (N := 1) rfl ?_); refine ev_box rfl HS (by first | (go_simp; done) | (go_simp; rfl)) rfl ?_; clear HS; (try clear F); intro g1 w1 HS; replace HS : Hp noFP w _ [.box g1 [.string a0.f0, .int .i64 a0.f1, .int .i64 a0.f2, .int .i64 a0.f3, .int .i64 a0.f4, .int .i64 a0.f5, .slice Ap0 a0.f6.length cp0, .string a0.f7] 49] := HS; have F := HS.boxes; simp only [boxFacts, and_true] at F) | ((with_reducible refine gate_dst (N := 10) rfl ?_); refine gate_guard (by rfl) ?_; refine ev_call rfl Try.func132 (by kernel_rfl) rfl #[.int .i64 a0.f1, .int .i64 0, .int .i64 1000000000] rfl (by simp only [List.map_toArray, List.map_cons, List.map_nil]; rfl) ?_; refine (impl_within.calls ht4.out).mono ?_; rintro _ wt4 ⟨rfl, HQ⟩; refine ⟨_, rfl, ?_⟩; replace HS := HS.call HQ; clear HQ; (try clear F); replace HS : Hp noFP w _ [.box g1 [.string a0.f0, .int .i64 a0.f1, .int .i64 a0.f2, .int .i64 a0.f3, .int .i64 a0.f4, .int .i64 a0.f5, .slice Ap0 a0.f6.length cp0, .string a0.f7] 49] := HS; have F := HS.boxes; simp only [boxFacts, and_true] at F; (try simp only [c6])) | ((with_reducible refine gate_dst (N := 16) rfl ?_); refine gate_guard (by rfl) ?_; refine ev_call rfl Try.func132 (by kernel_rfl) rfl #[.int .i64 a0.f2, .int .i64 0, .int .i64 19999] rfl (by simp only [List.map_toArray, List.map_cons, List.map_nil]; rfl) ?_; refine (impl_within.calls ht7.out).mono ?_; rintro _ wt7 ⟨rfl, HQ⟩; refine ⟨_, rfl, ?_⟩; replace HS := HS.call HQ; clear HQ; (try clear F); replace HS : Hp noFP w _ [.box g1 [.string a0.f0, .int .i64 a0.f1, .int .i64 a0.f2, .int .i64 a0.f3, .int .i64 a0.f4, .int .i64 a0.f5, .slice Ap0 a0.f6.length cp0, .string a0.f7] 49] := HS; have F := HS.boxes; simp only [boxFacts, and_true] at F; (try simp only [c9])) | ((with_reducible refine gate_dst (N := 22) rfl ?_); refine gate_guard (by rfl) ?_; refine ev_call rfl Try.func132 (by kernel_rfl) rfl #[.int .i64 a0.f3, .int .i64 0, .int .i64 19999] rfl (by simp only [List.map_toArray, List.map_cons, List.map_nil]; rfl) ?_; refine (impl_within.calls ht10.out).mono ?_; rintro _ wt10 ⟨rfl, HQ⟩; refine ⟨_, rfl, ?_⟩; replace HS := HS.call HQ; clear HQ; (try clear F); replace HS : Hp noFP w _ [.box g1 [.string a0.f0, .int .i64 a0.f1, .int .i64 a0.f2, .int .i64 a0.f3, .int .i64 a0.f4, .int .i64 a0.f5, .slice Ap0 a0.f6.length cp0, .string a0.f7] 49] := HS; have F := HS.boxes; simp only [boxFacts, and_true] at F; (try simp only [c12])) | ((with_reducible refine gate_dst (N := 28) rfl ?_); refine gate_guard (by rfl) ?_; refine ev_call rfl Try.func132 (by kernel_rfl) rfl #[.int .i64 a0.f4, .int .i64 0, .int .i64 99] rfl (by simp only [List.map_toArray, List.map_cons, List.map_nil]; rfl) ?_; refine (impl_within.calls ht13.out).mono ?_; rintro _ wt13 ⟨rfl, HQ⟩; refine ⟨_, rfl, ?_⟩; replace HS := HS.call HQ; clear HQ; (try clear F); replace HS : Hp noFP w _ [.box g1 [.string a0.f0, .int .i64 a0.f1, .int .i64 a0.f2, .int .i64 a0.f3, .int .i64 a0.f4, .int .i64 a0.f5, .slice Ap0 a0.f6.length cp0, .string a0.f7] 49] := HS; have F := HS.boxes; simp only [boxFacts, and_true] at F; (try simp only [c15])) | ((with_reducible refine gate_dst (N := 34) rfl ?_); refine gate_guard (by rfl) ?_; refine ev_call rfl Try.func132 (by kernel_rfl) rfl #[.int .i64 a0.f5, .int .i64 0, .int .i64 2] rfl (by simp only [List.map_toArray, List.map_cons, List.map_nil]; rfl) ?_; refine (impl_within.calls ht16.out).mono ?_; rintro _ wt16 ⟨rfl, HQ⟩; refine ⟨_, rfl, ?_⟩; replace HS := HS.call HQ; clear HQ; (try clear F); replace HS : Hp noFP w _ [.box g1 [.string a0.f0, .int .i64 a0.f1, .int .i64 a0.f2, .int .i64 a0.f3, .int .i64 a0.f4, .int .i64 a0.f5, .slice Ap0 a0.f6.length cp0, .string a0.f7] 49] := HS; have F := HS.boxes; simp only [boxFacts, and_true] at F; (try simp only [c18])))
             go_ret
             exact ⟨rfl, HS.pick [] (by decide) (by rfl)⟩
         · replace H := zneg c15 H
           replace c15 := eq_false_of_ne_true c15
           obtain rfl := zsome H
           go_wp2_with (first | ((with_reducible refine gate_dst (N := 1) rfl ?_); refine ev_box rfl HS (by first | (go_simp; done) | (go_simp; rfl)) rfl ?_; clear HS; (try clear F); intro g1 w1 HS; replace HS : Hp noFP w _ [.box g1 [.string a0.f0, .int .i64 a0.f1, .int .i64 a0.f2, .int .i64 a0.f3, .int .i64 a0.f4, .int .i64 a0.f5, .slice Ap0 a0.f6.length cp0, .string a0.f7] 49] := HS; have F := HS.boxes; simp only [boxFacts, and_true] at F) | ((with_reducible refine gate_dst (N := 10) rfl ?_); refine gate_guard (by rfl) ?_; refine ev_call rfl Try.func132 (by kernel_rfl) rfl #[.int .i64 a0.f1, .int .i64 0, .int .i64 1000000000] rfl (by simp only [List.map_toArray, List.map_cons, List.map_nil]; rfl) ?_; refine (impl_within.calls ht4.out).mono ?_; rintro _ wt4 ⟨rfl, HQ⟩; refine ⟨_, rfl, ?_⟩; replace HS := HS.call HQ; clear HQ; (try clear F); replace HS : Hp noFP w _ [.box g1 [.string a0.f0, .int .i64 a0.f1, .int .i64 a0.f2, .int .i64 a0.f3, .int .i64 a0.f4, .int .i64 a0.f5, .slice Ap0 a0.f6.length cp0, .string a0.f7] 49] := HS; have F := HS.boxes; simp only [boxFacts, and_true] at F; (try simp only [c6])) | ((with_reducible refine gate_dst (N := 16) rfl ?_); refine gate_guard (by rfl) ?_; refine ev_call rfl Try.func132 (by kernel_rfl) rfl #[.int .i64 a0.f2, .int .i64 0, .int .i64 19999] rfl (by simp only [List.map_toArray, List.map_cons, List.map_nil]; rfl) ?_; refine (impl_within.calls ht7.out).mono ?_; rintro _ wt7 ⟨rfl, HQ⟩; refine ⟨_, rfl, ?_⟩; replace HS := HS.call HQ; clear HQ; (try clear F); replace HS : Hp noFP w _ [.box g1 [.string a0.f0, .int .i64 a0.f1, .int .i64 a0.f2, .int .i64 a0.f3, .int .i64 a0.f4, .int .i64 a0.f5, .slice Ap0 a0.f6.length cp0, .string a0.f7] 49] := HS; have F := HS.boxes; simp only [boxFacts, and_true] at F; (try simp only [c9])) | ((with_reducible refine gate_dst (N := 22) rfl ?_); refine gate_guard (by rfl) ?_; refine ev_call rfl Try.func132 (by kernel_rfl) rfl #[.int .i64 a0.f3, .int .i64 0, .int .i64 19999] rfl (by simp only [List.map_toArray, List.map_cons, List.map_nil]; rfl) ?_; refine (impl_within.calls ht10.out).mono ?_; rintro _ wt10 ⟨rfl, HQ⟩; refine ⟨_, rfl, ?_⟩; replace HS := HS.call HQ; clear HQ; (try clear F); replace HS : Hp noFP w _ [.box g1 [.string a0.f0, .int .i64 a0.f1, .int .i64 a0.f2, .int .i64 a0.f3, .int .i64 a0.f4, .int .i64 a0.f5, .slice Ap0 a0.f6.length cp0, .string a0.f7] 49] := HS; have F := HS.boxes; simp only [boxFacts, and_true] at F; (try simp only [c12])) | ((with_reducible refine gate_dst (N := 28) rfl ?_); refine gate_guard (by rfl) ?_; refine ev_call rfl Try.func132 (by kernel_rfl) rfl #[.int .i64 a0.f4, .int .i64 0, .int .i64 99] rfl (by simp only [List.map_toArray, List.map_cons, List.map_nil]; rfl) ?_; refine (impl_within.calls ht13.out).mono ?_; rintro _ wt13 ⟨rfl, HQ⟩; refine ⟨_, rfl, ?_⟩; replace HS := HS.call HQ; clear HQ; (try clear F); replace HS : Hp noFP w _ [.box g1 [.string a0.f0, .int .i64 a0.f1, .int .i64 a0.f2, .int .i64 a0.f3, .int .i64 a0.f4, .int .i64 a0.f5, .slice Ap0 a0.f6.length cp0, .string a0.f7] 49] := HS; have F := HS.boxes; simp only [boxFacts, and_true] at F; (try simp only [c15])))
           go_ret
           exact ⟨rfl, HS.pick [] (by decide) (by rfl)⟩
       · replace H := zneg c12 H
         replace c12 := eq_false_of_ne_true c12
         obtain rfl := zsome H
         go_wp2_with (first | ((with_reducible refine gate_dst (N := 1) rfl ?_); refine ev_box rfl HS (by first | (go_simp; done) | (go_simp; rfl)) rfl ?_; clear HS; (try clear F); intro g1 w1 HS; replace HS : Hp noFP w _ [.box g1 [.string a0.f0, .int .i64 a0.f1, .int .i64 a0.f2, .int .i64 a0.f3, .int .i64 a0.f4, .int .i64 a0.f5, .slice Ap0 a0.f6.length cp0, .string a0.f7] 49] := HS; have F := HS.boxes; simp only [boxFacts, and_true] at F) | ((with_reducible refine gate_dst (N := 10) rfl ?_); refine gate_guard (by rfl) ?_; refine ev_call rfl Try.func132 (by kernel_rfl) rfl #[.int .i64 a0.f1, .int .i64 0, .int .i64 1000000000] rfl (by simp only [List.map_toArray, List.map_cons, List.map_nil]; rfl) ?_; refine (impl_within.calls ht4.out).mono ?_; rintro _ wt4 ⟨rfl, HQ⟩; refine ⟨_, rfl, ?_⟩; replace HS := HS.call HQ; clear HQ; (try clear F); replace HS : Hp noFP w _ [.box g1 [.string a0.f0, .int .i64 a0.f1, .int .i64 a0.f2, .int .i64 a0.f3, .int .i64 a0.f4, .int .i64 a0.f5, .slice Ap0 a0.f6.length cp0, .string a0.f7] 49] := HS; have F := HS.boxes; simp only [boxFacts, and_true] at F; (try simp only [c6])) | ((with_reducible refine gate_dst (N := 16) rfl ?_); refine gate_guard (by rfl) ?_; refine ev_call rfl Try.func132 (by kernel_rfl) rfl #[.int .i64 a0.f2, .int .i64 0, .int .i64 19999] rfl (by simp only [List.map_toArray, List.map_cons, List.map_nil]; rfl) ?_; refine (impl_within.calls ht7.out).mono ?_; rintro _ wt7 ⟨rfl, HQ⟩; refine ⟨_, rfl, ?_⟩; replace HS := HS.call HQ; clear HQ; (try clear F); replace HS : Hp noFP w _ [.box g1 [.string a0.f0, .int .i64 a0.f1, .int .i64 a0.f2, .int .i64 a0.f3, .int .i64 a0.f4, .int .i64 a0.f5, .slice Ap0 a0.f6.length cp0, .string a0.f7] 49] := HS; have F := HS.boxes; simp only [boxFacts, and_true] at F; (try simp only [c9])) | ((with_reducible refine gate_dst (N := 22) rfl ?_); refine gate_guard (by rfl) ?_; refine ev_call rfl Try.func132 (by kernel_rfl) rfl #[.int .i64 a0.f3, .int .i64 0, .int .i64 19999] rfl (by simp only [List.map_toArray, List.map_cons, List.map_nil]; rfl) ?_; refine (impl_within.calls ht10.out).mono ?_; rintro _ wt10 ⟨rfl, HQ⟩; refine ⟨_, rfl, ?_⟩; replace HS := HS.call HQ; clear HQ; (try clear F); replace HS : Hp noFP w _ [.box g1 [.string a0.f0, .int .i64 a0.f1, .int .i64 a0.f2, .int .i64 a0.f3, .int .i64 a0.f4, .int .i64 a0.f5, .slice Ap0 a0.f6.length cp0, .string a0.f7] 49] := HS; have F := HS.boxes; simp only [boxFacts, and_true] at F; (try simp only [c12])))
         go_ret
         exact ⟨rfl, HS.pick [] (by decide) (by rfl)⟩
     · replace H := zneg c9 H
       replace c9 := eq_false_of_ne_true c9
       obtain rfl := zsome H
       go_wp2_with (first | ((with_reducible refine gate_dst (N := 1) rfl ?_); refine ev_box rfl HS (by first | (go_simp; done) | (go_simp; rfl)) rfl ?_; clear HS; (try clear F); intro g1 w1 HS; replace HS : Hp noFP w _ [.box g1 [.string a0.f0, .int .i64 a0.f1, .int .i64 a0.f2, .int .i64 a0.f3, .int .i64 a0.f4, .int .i64 a0.f5, .slice Ap0 a0.f6.length cp0, .string a0.f7] 49] := HS; have F := HS.boxes; simp only [boxFacts, and_true] at F) | ((with_reducible refine gate_dst (N := 10) rfl ?_); refine gate_guard (by rfl) ?_; refine ev_call rfl Try.func132 (by kernel_rfl) rfl #[.int .i64 a0.f1, .int .i64 0, .int .i64 1000000000] rfl (by simp only [List.map_toArray, List.map_cons, List.map_nil]; rfl) ?_; refine (impl_within.calls ht4.out).mono ?_; rintro _ wt4 ⟨rfl, HQ⟩; refine ⟨_, rfl, ?_⟩; replace HS := HS.call HQ; clear HQ; (try clear F); replace HS : Hp noFP w _ [.box g1 [.string a0.f0, .int .i64 a0.f1, .int .i64 a0.f2, .int .i64 a0.f3, .int .i64 a0.f4, .int .i64 a0.f5, .slice Ap0 a0.f6.length cp0, .string a0.f7] 49] := HS; have F := HS.boxes; simp only [boxFacts, and_true] at F; (try simp only [c6])) | ((with_reducible refine gate_dst (N := 16) rfl ?_); refine gate_guard (by rfl) ?_; refine ev_call rfl Try.func132 (by kernel_rfl) rfl #[.int .i64 a0.f2, .int .i64 0, .int .i64 19999] rfl (by simp only [List.map_toArray, List.map_cons, List.map_nil]; rfl) ?_; refine (impl_within.calls ht7.out).mono ?_; rintro _ wt7 ⟨rfl, HQ⟩; refine ⟨_, rfl, ?_⟩; replace HS := HS.call HQ; clear HQ; (try clear F); replace HS : Hp noFP w _ [.box g1 [.string a0.f0, .int .i64 a0.f1, .int .i64 a0.f2, .int .i64 a0.f3, .int .i64 a0.f4, .int .i64 a0.f5, .slice Ap0 a0.f6.length cp0, .string a0.f7] 49] := HS; have F := HS.boxes; simp only [boxFacts, and_true] at F; (try simp only [c9])))
       go_ret
       exact ⟨rfl, HS.pick [] (by decide) (by rfl)⟩
   · replace H := zneg c6 H
     replace c6 := eq_false_of_ne_true c6
     obtain rfl := zsome H
     go_wp2_with (first | ((with_reducible refine gate_dst (N := 1) rfl ?_); refine ev_box rfl HS (by first | (go_simp; done) | (go_simp; rfl)) rfl ?_; clear HS; (try clear F); intro g1 w1 HS; replace HS : Hp noFP w _ [.box g1 [.string a0.f0, .int .i64 a0.f1, .int .i64 a0.f2, .int .i64 a0.f3, .int .i64 a0.f4, .int .i64 a0.f5, .slice Ap0 a0.f6.length cp0, .string a0.f7] 49] := HS; have F := HS.boxes; simp only [boxFacts, and_true] at F) | ((with_reducible refine gate_dst (N := 10) rfl ?_); refine gate_guard (by rfl) ?_; refine ev_call rfl Try.func132 (by kernel_rfl) rfl #[.int .i64 a0.f1, .int .i64 0, .int .i64 1000000000] rfl (by simp only [List.map_toArray, List.map_cons, List.map_nil]; rfl) ?_; refine (impl_within.calls ht4.out).mono ?_; rintro _ wt4 ⟨rfl, HQ⟩; refine ⟨_, rfl, ?_⟩; replace HS := HS.call HQ; clear HQ; (try clear F); replace HS : Hp noFP w _ [.box g1 [.string a0.f0, .int .i64 a0.f1, .int .i64 a0.f2, .int .i64 a0.f3, .int .i64 a0.f4, .int .i64 a0.f5, .slice Ap0 a0.f6.length cp0, .string a0.f7] 49] := HS; have F := HS.boxes; simp only [boxFacts, and_true] at F; (try simp only [c6])))
     go_ret
     exact ⟨rfl, HS.pick [] (by decide) (by rfl)⟩
 · replace H := zneg c3 H
   have c3a := beq_eq_false_iff_ne.mpr c3
   have c3b := bne_iff_ne.mpr c3
   clear c3
   obtain rfl := zsome H
   go_wp2_with (first | ((with_reducible refine gate_dst (N := 1) rfl ?_); refine ev_box rfl HS (by first | (go_simp; done) | (go_simp; rfl)) rfl ?_; clear HS; (try clear F); intro g1 w1 HS; replace HS : Hp noFP w _ [.box g1 [.string a0.f0, .int .i64 a0.f1, .int .i64 a0.f2, .int .i64 a0.f3, .int .i64 a0.f4, .int .i64 a0.f5, .slice Ap0 a0.f6.length cp0, .string a0.f7] 49] := HS; have F := HS.boxes; simp only [boxFacts, and_true] at F))
   go_ret
   exact ⟨rfl, HS.pick [] (by decide) (by rfl)⟩
/-! ### impl_ReplyText: function 30 -/
def impl_ReplyText.f (k : Nat) (a0 : S49) : Option (ByteArray × Bool) := ((impl_ReplyOk.f k a0).bind fun t3 => (if t3 = true then ((impl_replyItem.f k a0).bind fun t101001 => ((impl_bytesItem.f a0.f7).bind fun t104001 => ((impl_ListItem.f k ([t101001, t104001] : List S107)).bind fun t106001 => ((impl_ItemText.f k t106001).bind fun t107001 => (some (t107001.1, t107001.2)))))) else (some ((⟨#[]⟩ : ByteArray), false))))
def impl_ReplyText.T3 : Bool × List (List Nat × List Nat) := (true, [([], []), ([0], [0]), ([], []), ([2], [2]), ([3, 1], [3]), ([1, 4], [1, 4]), ([5, 4], [5]), ([6, 6], [6]), ([7], [7]), ([7], [7]), ([8, 7, 0, 1, 2, 3, 4, 5, 6, 7, 8, 9], [8]), ([9, 10, 0, 1, 2, 3, 4, 5, 6, 7, 8, 9, 10], [9])])
theorem impl_ReplyText.tT3 : rtab .any (opsOf Try.f30 3) = impl_ReplyText.T3 := by kernel_rfl
set_option maxHeartbeats 16000000 in
theorem impl_ReplyText.calls {k : Nat} {a0 : S49} {Ap0 : Option Addr} {np0 cp0 : Nat} {r1 : ByteArray} {r2 : Bool} {w : World} (h : impl_ReplyText.f k a0 = some (r1, r2)) (gp0 : k171.C w Ap0 np0 a0.f6) (lp0 : np0 ≤ cp0) :
    Calls Try.prog 30 #[.agg #[.string a0.f0, .int .i64 a0.f1, .int .i64 a0.f2, .int .i64 a0.f3, .int .i64 a0.f4, .int .i64 a0.f5, .slice Ap0 np0 cp0, .string a0.f7]] w (fun e w' => e = .returned (.tuple #[.string r1, .bool r2]) ∧ Hp noFP w w' []) := by
 obtain rfl := C_len gp0
 have HS := Hp.start w
 have H := Aside0.mk h
 clear h
 unfold impl_ReplyText.f at H
 go_enter Try.func30, Try.ntmps30
 obtain ⟨t3, ht3, H⟩ := zbind H
 go_upto_if 6 with (first | ((with_reducible refine gate_dst (N := 1) rfl ?_); refine ev_box rfl HS (by first | (go_simp; done) | (go_simp; rfl)) rfl ?_; clear HS; (try clear F); intro g1 w1 HS; replace HS : Hp noFP w _ [.box g1 [.string a0.f0, .int .i64 a0.f1, .int .i64 a0.f2, .int .i64 a0.f3, .int .i64 a0.f4, .int .i64 a0.f5, .slice Ap0 a0.f6.length cp0, .string a0.f7] 49] := HS; have F := HS.boxes; simp only [boxFacts, and_true] at F) | ((with_reducible refine gate_dst (N := 5) rfl ?_); refine ev_call rfl Try.func72 (by kernel_rfl) rfl #[.agg #[.string a0.f0, .int .i64 a0.f1, .int .i64 a0.f2, .int .i64 a0.f3, .int .i64 a0.f4, .int .i64 a0.f5, .slice Ap0 a0.f6.length cp0, .string a0.f7]] rfl (by simp only [List.map_toArray, List.map_cons, List.map_nil]; rfl) ?_; refine (impl_ReplyOk.calls ht3.out (HS.ro gp0) lp0).mono ?_; rintro _ wt3 ⟨rfl, HQ⟩; refine ⟨_, rfl, ?_⟩; replace HS := HS.call HQ; clear HQ; (try clear F); replace HS : Hp noFP w _ [.box g1 [.string a0.f0, .int .i64 a0.f1, .int .i64 a0.f2, .int .i64 a0.f3, .int .i64 a0.f4, .int .i64 a0.f5, .slice Ap0 a0.f6.length cp0, .string a0.f7] 49] := HS; have F := HS.boxes; simp only [boxFacts, and_true] at F))
 by_cases c5 : t3 = true
 · replace H := zpos c5 H
   (try simp only [c5, decide_true, decide_false, Bool.not_true, Bool.not_false])
   (try go_wp2)
   obtain ⟨t101001, ht101001, H⟩ := zbind H
   obtain ⟨t104001, ht104001, H⟩ := zbind H
   obtain ⟨t106001, ht106001, H⟩ := zbind H
   obtain ⟨t107001, ht107001, H⟩ := zbind H
   refine dr_start [] HS #[false, false, false, false, false, false, false, false, false, false, false, false] (by kernel_rfl) rfl rfl impl_ReplyText.tT3 (fun w7 HT HS HH => ?_)
   (try clear F)
   refine drq_of [(0, some 7), (2, some 9), (3, some 10)] ?_
   repeat (first | (refine drq_pure HT (v := ?_) (a' := ?_) rfl rfl (by kernel_rfl) (fun _ _ _ h => h) (.inl ⟨by rfl, ?_⟩) ?_ ?_; rotate_left; (intro w'; go_simp; with_reducible rfl); rotate_left; (simp only [Act.put, List.setIfInBounds_toArray, List.set_cons_zero, List.set_cons_succ, i64_w, i32_w]; rfl)) | (refine drq_take HT HH (v := ?_) (a' := ?_) rfl rfl (by kernel_rfl) (fun _ _ _ h => h) (.inl ⟨by rfl, ?_⟩) ?_ ?_; rotate_left; (rintro w' ⟨rs', HS'⟩; have F := HS'.boxes; simp only [boxFacts, List.cons_append, List.nil_append, and_true] at F; go_simp; with_reducible rfl); rotate_left; (simp only [Act.put, List.setIfInBounds_toArray, List.set_cons_zero, List.set_cons_succ, i64_w, i32_w]; rfl)))
   refine drq_end ?_
   refine dr_one 1 HT rfl (by kernel_rfl) (by decide) (fun K hK => ?_)
   refine goes_ Try.func68 (by kernel_rfl) rfl #[.agg #[.string a0.f0, .int .i64 a0.f1, .int .i64 a0.f2, .int .i64 a0.f3, .int .i64 a0.f4, .int .i64 a0.f5, .slice Ap0 a0.f6.length cp0, .string a0.f7]] (by rfl) rfl rfl (by simp only [List.map_toArray, List.map_cons, List.map_nil]; rfl) ?_; refine (impl_replyItem.calls ht101001.out (HS.ro gp0) lp0).mono ?_; rintro _ wt101001 ⟨v101002, rfl, HQ⟩; refine ⟨_, rfl, ?_⟩; replace HS := HS.call HQ; clear HQ; (try clear F); obtain ⟨B101002, d101002, rfl, m101002⟩ := HS.form 1 rfl
   replace HS : Hp noFP w _ [.box g1 [.string a0.f0, .int .i64 a0.f1, .int .i64 a0.f2, .int .i64 a0.f3, .int .i64 a0.f4, .int .i64 a0.f5, .slice Ap0 a0.f6.length cp0, .string a0.f7] 49, .own (Zd.slice 107 q107) t101001.f2 [.slice B101002 t101001.f2.length d101002]] := HS
   have F := HS.boxes; simp only [boxFacts, and_true] at F
   refine hK.out _ _ ⟨_, HS⟩ (fun HH => ?_)
   clear hK K
   refine norm_ (a' := ?_) ?_ ?_
   rotate_left
   · show Act.put _ (some 8) _ = _; simp only [Act.put, List.setIfInBounds_toArray, List.set_cons_zero, List.set_cons_succ, i64_w, i32_w, c5]; rfl
   refine dr_one 4 HT rfl (by kernel_rfl) (by decide) (fun K hK => ?_)
   refine goes_ Try.func74 (by kernel_rfl) rfl #[.string a0.f7] (by rfl) rfl rfl (by simp only [List.map_toArray, List.map_cons, List.map_nil]; rfl) ?_; refine (impl_bytesItem.calls ht104001.out).mono ?_; rintro _ wt104001 ⟨v104002, rfl, HQ⟩; refine ⟨_, rfl, ?_⟩; replace HS := HS.call HQ; clear HQ; (try clear F); obtain ⟨B104002, d104002, rfl, m104002⟩ := HS.form 2 rfl
   replace HS : Hp noFP w _ [.box g1 [.string a0.f0, .int .i64 a0.f1, .int .i64 a0.f2, .int .i64 a0.f3, .int .i64 a0.f4, .int .i64 a0.f5, .slice Ap0 a0.f6.length cp0, .string a0.f7] 49, .own (Zd.slice 107 q107) t101001.f2 [.slice B101002 t101001.f2.length d101002], .own (Zd.slice 107 q107) t104001.f2 [.slice B104002 t104001.f2.length d104002]] := HS
   have F := HS.boxes; simp only [boxFacts, and_true] at F
   refine hK.out _ _ ⟨_, HS⟩ (fun HH => ?_)
   clear hK K
   refine norm_ (a' := ?_) ?_ ?_
   rotate_left
   · show Act.put _ (some 11) _ = _; simp only [Act.put, List.setIfInBounds_toArray, List.set_cons_zero, List.set_cons_succ, i64_w, i32_w, c5]; rfl
   refine dr_one 5 HT rfl (by kernel_rfl) (by decide) (fun K hK => ?_)
   refine if_wp (by rfl) ?_; refine wp_lit q107 [1, 2] ([t101001, t104001] : List S107) ([.int .i64 t101001.f0, .string t101001.f1, .slice B101002 t101001.f2.length d101002] ++ ([.int .i64 t104001.f0, .string t104001.f1, .slice B104002 t104001.f2.length d104002] ++ [])) HS (by first | (go_simp; done) | (go_simp; rfl)) rfl rfl (Nat.le_of_ble_eq_true rfl) (MadeL.cons (js1 := [1]) (c := [.int .i64 t101001.f0, .string t101001.f1, .slice B101002 t101001.f2.length d101002]) rfl (fun S hd hh => q107_pack (x := t101001) hd (hh 1 (.own (Zd.slice 107 q107) t101001.f2 [.slice B101002 t101001.f2.length d101002]) rfl) (by decide)) (MadeL.cons (js1 := [2]) (c := [.int .i64 t104001.f0, .string t104001.f1, .slice B104002 t104001.f2.length d104002]) rfl (fun S hd hh => q107_pack (x := t104001) hd (hh 2 (.own (Zd.slice 107 q107) t104001.f2 [.slice B104002 t104001.f2.length d104002]) rfl) (by decide)) MadeL.nil (by decide)) (by decide)) ?_; clear HS; (try clear F); intro v105001 w105001 HS; obtain ⟨B105001, d105001, rfl, m105001⟩ := HS.formn 2 3 rfl rfl
   replace HS : Hp noFP w _ [.box g1 [.string a0.f0, .int .i64 a0.f1, .int .i64 a0.f2, .int .i64 a0.f3, .int .i64 a0.f4, .int .i64 a0.f5, .slice Ap0 a0.f6.length cp0, .string a0.f7] 49, .emp, .emp, .own (Zd.slice 107 q107) ([t101001, t104001] : List S107) [.slice B105001 2 d105001]] := HS
   have F := HS.boxes; simp only [boxFacts, and_true] at F
   refine hK.out _ _ ⟨_, HS⟩ (fun HH => ?_)
   clear hK K
   refine norm_ (a' := ?_) ?_ ?_
   rotate_left
   · show Act.put _ (some 12) _ = _; simp only [Act.put, List.setIfInBounds_toArray, List.set_cons_zero, List.set_cons_succ, i64_w, i32_w, c5]; rfl
   refine dr_one 6 HT rfl (by kernel_rfl) (by decide) (fun K hK => ?_)
   refine goes_ Try.func73 (by kernel_rfl) rfl #[.slice B105001 2 d105001] (by rfl) rfl rfl (by simp only [List.map_toArray, List.map_cons, List.map_nil]; rfl) ?_; refine (impl_ListItem.calls ht106001.out (HS.rd 3 rfl) m105001).mono ?_; rintro _ wt106001 ⟨v106002, rfl, HQ⟩; refine ⟨_, rfl, ?_⟩; replace HS := HS.call HQ; clear HQ; (try clear F); obtain ⟨B106002, d106002, rfl, m106002⟩ := HS.form 4 rfl
   replace HS : Hp noFP w _ [.box g1 [.string a0.f0, .int .i64 a0.f1, .int .i64 a0.f2, .int .i64 a0.f3, .int .i64 a0.f4, .int .i64 a0.f5, .slice Ap0 a0.f6.length cp0, .string a0.f7] 49, .emp, .emp, .own (Zd.slice 107 q107) ([t101001, t104001] : List S107) [.slice B105001 2 d105001], .own (Zd.slice 107 q107) t106001.f2 [.slice B106002 t106001.f2.length d106002]] := HS
   have F := HS.boxes; simp only [boxFacts, and_true] at F
   refine hK.out _ _ ⟨_, HS⟩ (fun HH => ?_)
   clear hK K
   refine norm_ (a' := ?_) ?_ ?_
   rotate_left
   · show Act.put _ (some 13) _ = _; simp only [Act.put, List.setIfInBounds_toArray, List.set_cons_zero, List.set_cons_succ, i64_w, i32_w, c5]; rfl
   refine dr_one 7 HT rfl (by kernel_rfl) (by decide) (fun K hK => ?_)
   refine goes_ Try.func67 (by kernel_rfl) rfl #[.agg #[.int .i64 t106001.f0, .string t106001.f1, .slice B106002 t106001.f2.length d106002]] (by rfl) rfl rfl (by simp only [List.map_toArray, List.map_cons, List.map_nil]; rfl) ?_; refine (impl_ItemText.calls ht107001.out (HS.rd 4 rfl) m106002).mono ?_; rintro _ wt107001 ⟨rfl, HQ⟩; refine ⟨_, rfl, ?_⟩; replace HS := HS.call HQ; clear HQ; (try clear F)
   replace HS : Hp noFP w _ [.box g1 [.string a0.f0, .int .i64 a0.f1, .int .i64 a0.f2, .int .i64 a0.f3, .int .i64 a0.f4, .int .i64 a0.f5, .slice Ap0 a0.f6.length cp0, .string a0.f7] 49, .emp, .emp, .own (Zd.slice 107 q107) ([t101001, t104001] : List S107) [.slice B105001 2 d105001], .own (Zd.slice 107 q107) t106001.f2 [.slice B106002 t106001.f2.length d106002]] := HS
   have F := HS.boxes; simp only [boxFacts, and_true] at F
   refine hK.out _ _ ⟨_, HS⟩ (fun HH => ?_)
   clear hK K
   refine norm_ (a' := ?_) ?_ ?_
   rotate_left
   · show Act.put _ (some 14) _ = _; simp only [Act.put, List.setIfInBounds_toArray, List.set_cons_zero, List.set_cons_succ, i64_w, i32_w, c5]; rfl
   refine drq_of [(8, some 15), (9, some 16), (10, some 2), (11, some 3)] ?_
   repeat (first | (refine drq_pure HT (v := ?_) (a' := ?_) rfl rfl (by kernel_rfl) (fun _ _ _ h => h) (.inl ⟨by rfl, ?_⟩) ?_ ?_; rotate_left; (intro w'; go_simp; with_reducible rfl); rotate_left; (simp only [Act.put, List.setIfInBounds_toArray, List.set_cons_zero, List.set_cons_succ, i64_w, i32_w]; rfl)))
   refine drq_end ?_
   refine done_ (done_of HT.out (by kernel_rfl)) ?_
   obtain ⟨rfl, rfl⟩ := zsome2 H
   go_wp2
   exact bodyPost_ret (results_list (rs := [.tmp 2, .tmp 3]) rfl (by simp) (.tmp (.tmp .nil))) rfl ⟨rfl, HS.pick [] (by decide) (by rfl)⟩
 · replace H := zneg c5 H
   replace c5 := eq_false_of_ne_true c5
   (try simp only [c5, decide_true, decide_false, Bool.not_true, Bool.not_false])
   obtain ⟨rfl, rfl⟩ := zsome2 H
   go_wp2
   exact bodyPost_ret (results_list (rs := [.tmp 2, .tmp 3]) rfl (by simp) (.tmp (.tmp .nil))) rfl ⟨rfl, HS.pick [] (by decide) (by rfl)⟩
/-! ### laws_FnExactReplyText: function 6 -/
def laws_FnExactReplyText.f (k : Nat) (a0 : S44) : Option (Bool) := ((laws_szReply.f k a0 1048576).bind fun t3 => (if t3 < 0 then (some true) else ((laws_toReply.f k a0).bind fun t6 => ((spec_ReplyText.f k t6).bind fun t9 => ((laws_toReply.f k a0).bind fun t11 => ((impl_ReplyText.f k t11).bind fun t18 => (if t18.1.toList = t9.1.toList then (if t18.2 = t9.2 then ((laws_toReply.f k a0).bind fun t102001 => ((laws_eqReply.f k t11 t102001).bind fun t103001 => (if t103001 = true then (some true) else (some false)))) else (some false)) else (some false))))))))
def laws_FnExactReplyText.T10 : Bool × List (List Nat × List Nat) := (true, [([], []), ([], []), ([1], [1]), ([0, 2, 2], [0, 2]), ([3], [3])])
theorem laws_FnExactReplyText.tT10 : rtab .any (opsOf Try.f6 10) = laws_FnExactReplyText.T10 := by kernel_rfl
set_option maxHeartbeats 16000000 in
theorem laws_FnExactReplyText.calls {k : Nat} {a0 : S44} {Ap0 : Option Addr} {np0 cp0 : Nat} {r : Bool} {w : World} (h : laws_FnExactReplyText.f k a0 = some r) (gp0 : k169.C w Ap0 np0 a0.f6) (lp0 : np0 ≤ cp0) :
    Calls Try.prog 6 #[.agg #[.string a0.f0, .int .i64 a0.f1, .int .i64 a0.f2, .int .i64 a0.f3, .int .i64 a0.f4, .int .i64 a0.f5, .slice Ap0 np0 cp0, .string a0.f7]] w (fun e w' => e = .returned (.bool r) ∧ Hp noFP w w' []) := by
 obtain rfl := C_len gp0
 have HS := Hp.start w
 have H := Aside0.mk h
 clear h
 unfold laws_FnExactReplyText.f at H
 go_enter Try.func6, Try.ntmps6
 obtain ⟨t3, ht3, H⟩ := zbind H
 go_upto_if 13 with (first | ((with_reducible refine gate_dst (N := 1) rfl ?_); refine ev_box rfl HS (by first | (go_simp; done) | (go_simp; rfl)) rfl ?_; clear HS; (try clear F); intro g1 w1 HS; replace HS : Hp noFP w _ [.box g1 [.string a0.f0, .int .i64 a0.f1, .int .i64 a0.f2, .int .i64 a0.f3, .int .i64 a0.f4, .int .i64 a0.f5, .slice Ap0 a0.f6.length cp0, .string a0.f7] 44] := HS; have F := HS.boxes; simp only [boxFacts, and_true] at F) | ((with_reducible refine gate_dst (N := 11) rfl ?_); refine ev_call rfl Try.func24 (by kernel_rfl) rfl #[.agg #[.string a0.f0, .int .i64 a0.f1, .int .i64 a0.f2, .int .i64 a0.f3, .int .i64 a0.f4, .int .i64 a0.f5, .slice Ap0 a0.f6.length cp0, .string a0.f7], .int .i64 1048576] rfl (by simp only [List.map_toArray, List.map_cons, List.map_nil]; rfl) ?_; refine (laws_szReply.calls ht3.out (HS.ro gp0) lp0).mono ?_; rintro _ wt3 ⟨rfl, HQ⟩; refine ⟨_, rfl, ?_⟩; replace HS := HS.call HQ; clear HQ; (try clear F); replace HS : Hp noFP w _ [.box g1 [.string a0.f0, .int .i64 a0.f1, .int .i64 a0.f2, .int .i64 a0.f3, .int .i64 a0.f4, .int .i64 a0.f5, .slice Ap0 a0.f6.length cp0, .string a0.f7] 44] := HS; have F := HS.boxes; simp only [boxFacts, and_true] at F))
 by_cases c5 : t3 < 0
 · replace H := zpos c5 H
   replace c5 := eq_true c5
   (try simp only [c5, decide_true, decide_false, Bool.not_true, Bool.not_false])
   obtain rfl := zsome H
   go_wp2
   go_ret
   exact ⟨rfl, HS.pick [] (by decide) (by rfl)⟩
 · replace H := zneg c5 H
   replace c5 := eq_false c5
   (try simp only [c5, decide_true, decide_false, Bool.not_true, Bool.not_false])
   obtain ⟨t6, ht6, H⟩ := zbind H
   obtain ⟨t9, ht9, H⟩ := zbind H
   obtain ⟨t11, ht11, H⟩ := zbind H
   obtain ⟨t18, ht18, H⟩ := zbind H
   by_cases c20 : t18.1.toList = t9.1.toList
   · replace H := zpos c20 H
     have c20a := beq_iff_eq.mpr c20
     have c20b := bne_eq_false_iff_eq.mpr c20
     clear c20
     go_upto_if 34 with (first | ((with_reducible refine gate_dst (N := 16) rfl ?_); refine ev_call rfl Try.func26 (by kernel_rfl) rfl #[.agg #[.string a0.f0, .int .i64 a0.f1, .int .i64 a0.f2, .int .i64 a0.f3, .int .i64 a0.f4, .int .i64 a0.f5, .slice Ap0 a0.f6.length cp0, .string a0.f7]] rfl (by simp only [List.map_toArray, List.map_cons, List.map_nil]; rfl) ?_; refine (laws_toReply.calls ht6.out (HS.ro gp0) lp0).mono ?_; rintro _ wt6 ⟨v7, rfl, HQ⟩; refine ⟨_, rfl, ?_⟩; replace HS := HS.call HQ; clear HQ; (try clear F); obtain ⟨B7, d7, rfl, m7⟩ := HS.form 1 rfl; replace HS : Hp noFP w _ [.box g1 [.string a0.f0, .int .i64 a0.f1, .int .i64 a0.f2, .int .i64 a0.f3, .int .i64 a0.f4, .int .i64 a0.f5, .slice Ap0 a0.f6.length cp0, .string a0.f7] 44, .own (Zd.slice 171 q171) t6.f6 [.slice B7 t6.f6.length d7]] := HS; have F := HS.boxes; simp only [boxFacts, and_true] at F) | ((with_reducible refine gate_dst (N := 17) rfl ?_); refine ev_call rfl Try.func29 (by kernel_rfl) rfl #[.agg #[.string t6.f0, .int .i64 t6.f1, .int .i64 t6.f2, .int .i64 t6.f3, .int .i64 t6.f4, .int .i64 t6.f5, .slice B7 t6.f6.length d7, .string t6.f7]] rfl (by simp only [List.map_toArray, List.map_cons, List.map_nil]; rfl) ?_; refine (spec_ReplyText.calls ht9.out (HS.rd 1 rfl) m7).mono ?_; rintro _ wt9 ⟨rfl, HQ⟩; refine ⟨_, rfl, ?_⟩; replace HS := HS.call HQ; clear HQ; (try clear F); replace HS : Hp noFP w _ [.box g1 [.string a0.f0, .int .i64 a0.f1, .int .i64 a0.f2, .int .i64 a0.f3, .int .i64 a0.f4, .int .i64 a0.f5, .slice Ap0 a0.f6.length cp0, .string a0.f7] 44, .own (Zd.slice 171 q171) t6.f6 [.slice B7 t6.f6.length d7]] := HS; have F := HS.boxes; simp only [boxFacts, and_true] at F) | ((with_reducible refine gate_dst (N := 21) rfl ?_); refine ev_call rfl Try.func26 (by kernel_rfl) rfl #[.agg #[.string a0.f0, .int .i64 a0.f1, .int .i64 a0.f2, .int .i64 a0.f3, .int .i64 a0.f4, .int .i64 a0.f5, .slice Ap0 a0.f6.length cp0, .string a0.f7]] rfl (by simp only [List.map_toArray, List.map_cons, List.map_nil]; rfl) ?_; refine (laws_toReply.calls ht11.out (HS.ro gp0) lp0).mono ?_; rintro _ wt11 ⟨v12, rfl, HQ⟩; refine ⟨_, rfl, ?_⟩; replace HS := HS.call HQ; clear HQ; (try clear F); obtain ⟨B12, d12, rfl, m12⟩ := HS.form 2 rfl; replace HS : Hp noFP w _ [.box g1 [.string a0.f0, .int .i64 a0.f1, .int .i64 a0.f2, .int .i64 a0.f3, .int .i64 a0.f4, .int .i64 a0.f5, .slice Ap0 a0.f6.length cp0, .string a0.f7] 44, .own (Zd.slice 171 q171) t6.f6 [.slice B7 t6.f6.length d7], .own (Zd.slice 171 q171) t11.f6 [.slice B12 t11.f6.length d12]] := HS; have F := HS.boxes; simp only [boxFacts, and_true] at F) | ((with_reducible refine gate_dst (N := 6) rfl ?_); refine ev_box rfl HS (by first | (go_simp; done) | (go_simp; rfl)) rfl ?_; clear HS; (try clear F); intro g6 w6 HS; replace HS : Hp noFP w _ [.box g1 [.string a0.f0, .int .i64 a0.f1, .int .i64 a0.f2, .int .i64 a0.f3, .int .i64 a0.f4, .int .i64 a0.f5, .slice Ap0 a0.f6.length cp0, .string a0.f7] 44, .own (Zd.slice 171 q171) t6.f6 [.slice B7 t6.f6.length d7], .own (Zd.slice 171 q171) t11.f6 [.slice B12 t11.f6.length d12], .box g6 [.string (⟨#[]⟩ : ByteArray), .int .i64 0, .int .i64 0, .int .i64 0, .int .i64 0, .int .i64 0, .slice none 0 0, .string (⟨#[]⟩ : ByteArray)] 49] := HS; have F := HS.boxes; simp only [boxFacts, and_true] at F) | ((with_reducible refine gate_store (p := 6) rfl ?_); refine ev_store rfl 3 0 HS (seg := [.string t11.f0, .int .i64 t11.f1, .int .i64 t11.f2, .int .i64 t11.f3, .int .i64 t11.f4, .int .i64 t11.f5, .slice B12 t11.f6.length d12, .string t11.f7]) rfl rfl rfl rfl rfl rfl (by kernel_rfl) (by simp [wrt]) (by simp [Value.oneCell']) ?_; clear HS; (try clear F); intro w16 HS; replace HS : Hp noFP w _ [.box g1 [.string a0.f0, .int .i64 a0.f1, .int .i64 a0.f2, .int .i64 a0.f3, .int .i64 a0.f4, .int .i64 a0.f5, .slice Ap0 a0.f6.length cp0, .string a0.f7] 44, .own (Zd.slice 171 q171) t6.f6 [.slice B7 t6.f6.length d7], .own (Zd.slice 171 q171) t11.f6 [.slice B12 t11.f6.length d12], .box g6 [.string t11.f0, .int .i64 t11.f1, .int .i64 t11.f2, .int .i64 t11.f3, .int .i64 t11.f4, .int .i64 t11.f5, .slice B12 t11.f6.length d12, .string t11.f7] 49] := HS; have F := HS.boxes; simp only [boxFacts, and_true] at F) | ((with_reducible refine gate_dst (N := 24) rfl ?_); refine ev_call rfl Try.func30 (by kernel_rfl) rfl #[.agg #[.string t11.f0, .int .i64 t11.f1, .int .i64 t11.f2, .int .i64 t11.f3, .int .i64 t11.f4, .int .i64 t11.f5, .slice B12 t11.f6.length d12, .string t11.f7]] rfl (by simp only [List.map_toArray, List.map_cons, List.map_nil]; rfl) ?_; refine (impl_ReplyText.calls ht18.out (HS.rd 2 rfl) m12).mono ?_; rintro _ wt18 ⟨rfl, HQ⟩; refine ⟨_, rfl, ?_⟩; replace HS := HS.call HQ; clear HQ; (try clear F); replace HS : Hp noFP w _ [.box g1 [.string a0.f0, .int .i64 a0.f1, .int .i64 a0.f2, .int .i64 a0.f3, .int .i64 a0.f4, .int .i64 a0.f5, .slice Ap0 a0.f6.length cp0, .string a0.f7] 44, .own (Zd.slice 171 q171) t6.f6 [.slice B7 t6.f6.length d7], .own (Zd.slice 171 q171) t11.f6 [.slice B12 t11.f6.length d12], .box g6 [.string t11.f0, .int .i64 t11.f1, .int .i64 t11.f2, .int .i64 t11.f3, .int .i64 t11.f4, .int .i64 t11.f5, .slice B12 t11.f6.length d12, .string t11.f7] 49] := HS; have F := HS.boxes; simp only [boxFacts, and_true] at F))
     by_cases c21 : t18.2 = t9.2
     · replace H := zpos c21 H
       have c21a := beq_iff_eq.mpr c21
       have c21b := bne_eq_false_iff_eq.mpr c21
       clear c21
       (try simp only [c21a, c21b, decide_true, decide_false, Bool.not_true, Bool.not_false])
       (try go_wp2)
       obtain ⟨t102001, ht102001, H⟩ := zbind H
       obtain ⟨t103001, ht103001, H⟩ := zbind H
       refine dr_start [] HS #[false, false, false, false, false] (by kernel_rfl) rfl rfl laws_FnExactReplyText.tT10 (fun w23 HT HS HH => ?_)
       (try clear F)
       refine drq_of [(0, some 35), (1, some 36)] ?_
       repeat (first | (refine drq_take HT HH (v := ?_) (a' := ?_) rfl rfl (by kernel_rfl) (fun _ _ _ h => h) (.inl ⟨by rfl, ?_⟩) ?_ ?_; rotate_left; (rintro w' ⟨rs', HS'⟩; have F := HS'.boxes; simp only [boxFacts, List.cons_append, List.nil_append, and_true] at F; go_simp; with_reducible rfl); rotate_left; (simp only [Act.put, List.setIfInBounds_toArray, List.set_cons_zero, List.set_cons_succ, i64_w, i32_w]; rfl)))
       refine drq_end ?_
       refine dr_one 2 HT rfl (by kernel_rfl) (by decide) (fun K hK => ?_)
       refine goes_ Try.func26 (by kernel_rfl) rfl #[.agg #[.string a0.f0, .int .i64 a0.f1, .int .i64 a0.f2, .int .i64 a0.f3, .int .i64 a0.f4, .int .i64 a0.f5, .slice Ap0 a0.f6.length cp0, .string a0.f7]] (by rfl) rfl rfl (by simp only [List.map_toArray, List.map_cons, List.map_nil]; rfl) ?_; refine (laws_toReply.calls ht102001.out (HS.ro gp0) lp0).mono ?_; rintro _ wt102001 ⟨v102002, rfl, HQ⟩; refine ⟨_, rfl, ?_⟩; replace HS := HS.call HQ; clear HQ; (try clear F); obtain ⟨B102002, d102002, rfl, m102002⟩ := HS.form 4 rfl
       replace HS : Hp noFP w _ [.box g1 [.string a0.f0, .int .i64 a0.f1, .int .i64 a0.f2, .int .i64 a0.f3, .int .i64 a0.f4, .int .i64 a0.f5, .slice Ap0 a0.f6.length cp0, .string a0.f7] 44, .own (Zd.slice 171 q171) t6.f6 [.slice B7 t6.f6.length d7], .own (Zd.slice 171 q171) t11.f6 [.slice B12 t11.f6.length d12], .box g6 [.string t11.f0, .int .i64 t11.f1, .int .i64 t11.f2, .int .i64 t11.f3, .int .i64 t11.f4, .int .i64 t11.f5, .slice B12 t11.f6.length d12, .string t11.f7] 49, .own (Zd.slice 171 q171) t102001.f6 [.slice B102002 t102001.f6.length d102002]] := HS
       have F := HS.boxes; simp only [boxFacts, and_true] at F
       refine hK.out _ _ ⟨_, HS⟩ (fun HH => ?_)
       clear hK K
       refine norm_ (a' := ?_) ?_ ?_
       rotate_left
       · show Act.put _ (some 37) _ = _; simp only [Act.put, List.setIfInBounds_toArray, List.set_cons_zero, List.set_cons_succ, i64_w, i32_w]; rfl
       refine dr_one 3 HT rfl (by kernel_rfl) (by decide) (fun K hK => ?_)
       refine goes_ Try.func28 (by kernel_rfl) rfl #[.agg #[.string t11.f0, .int .i64 t11.f1, .int .i64 t11.f2, .int .i64 t11.f3, .int .i64 t11.f4, .int .i64 t11.f5, .slice B12 t11.f6.length d12, .string t11.f7], .agg #[.string t102001.f0, .int .i64 t102001.f1, .int .i64 t102001.f2, .int .i64 t102001.f3, .int .i64 t102001.f4, .int .i64 t102001.f5, .slice B102002 t102001.f6.length d102002, .string t102001.f7]] (by rfl) rfl rfl (by simp only [List.map_toArray, List.map_cons, List.map_nil]; rfl) ?_; refine (laws_eqReply.calls ht103001.out (HS.rd 2 rfl) m12 (HS.rd 4 rfl) m102002).mono ?_; rintro _ wt103001 ⟨rfl, HQ⟩; refine ⟨_, rfl, ?_⟩; replace HS := HS.call HQ; clear HQ; (try clear F)
       replace HS : Hp noFP w _ [.box g1 [.string a0.f0, .int .i64 a0.f1, .int .i64 a0.f2, .int .i64 a0.f3, .int .i64 a0.f4, .int .i64 a0.f5, .slice Ap0 a0.f6.length cp0, .string a0.f7] 44, .own (Zd.slice 171 q171) t6.f6 [.slice B7 t6.f6.length d7], .own (Zd.slice 171 q171) t11.f6 [.slice B12 t11.f6.length d12], .box g6 [.string t11.f0, .int .i64 t11.f1, .int .i64 t11.f2, .int .i64 t11.f3, .int .i64 t11.f4, .int .i64 t11.f5, .slice B12 t11.f6.length d12, .string t11.f7] 49, .own (Zd.slice 171 q171) t102001.f6 [.slice B102002 t102001.f6.length d102002]] := HS
       have F := HS.boxes; simp only [boxFacts, and_true] at F
       refine hK.out _ _ ⟨_, HS⟩ (fun HH => ?_)
       clear hK K
       refine norm_ (a' := ?_) ?_ ?_
       rotate_left
       · show Act.put _ (some 38) _ = _; simp only [Act.put, List.setIfInBounds_toArray, List.set_cons_zero, List.set_cons_succ, i64_w, i32_w]; rfl
       refine drq_of [(4, some 39)] ?_
       repeat (first | (refine drq_pure HT (v := ?_) (a' := ?_) rfl rfl (by kernel_rfl) (fun _ _ _ h => h) (.inl ⟨by rfl, ?_⟩) ?_ ?_; rotate_left; (intro w'; go_simp; with_reducible rfl); rotate_left; (simp only [Act.put, List.setIfInBounds_toArray, List.set_cons_zero, List.set_cons_succ, i64_w, i32_w]; rfl)))
       refine drq_end ?_
       refine done_ (done_of HT.out (by kernel_rfl)) ?_
       by_cases c25 : t103001 = true
       · replace H := zpos c25 H
         (try simp only [c25, decide_true, decide_false, Bool.not_true, Bool.not_false])
         obtain rfl := zsome H
         go_wp2
         go_ret
         exact ⟨rfl, HS.pick [] (by decide) (by rfl)⟩
       · replace H := zneg c25 H
         replace c25 := eq_false_of_ne_true c25
         (try simp only [c25, decide_true, decide_false, Bool.not_true, Bool.not_false])
         obtain rfl := zsome H
         go_wp2
         go_ret
         exact ⟨rfl, HS.pick [] (by decide) (by rfl)⟩
     · replace H := zneg c21 H
       have c21a := beq_eq_false_iff_ne.mpr c21
       have c21b := bne_iff_ne.mpr c21
       clear c21
       (try simp only [c21a, c21b, decide_true, decide_false, Bool.not_true, Bool.not_false])
       obtain rfl := zsome H
       go_wp2
       go_ret
       exact ⟨rfl, HS.pick [] (by decide) (by rfl)⟩
   · replace H := zneg c20 H
     have c20a := beq_eq_false_iff_ne.mpr c20
     have c20b := bne_iff_ne.mpr c20
     clear c20
     obtain rfl := zsome H
     go_wp2_with (first | ((with_reducible refine gate_dst (N := 16) rfl ?_); refine ev_call rfl Try.func26 (by kernel_rfl) rfl #[.agg #[.string a0.f0, .int .i64 a0.f1, .int .i64 a0.f2, .int .i64 a0.f3, .int .i64 a0.f4, .int .i64 a0.f5, .slice Ap0 a0.f6.length cp0, .string a0.f7]] rfl (by simp only [List.map_toArray, List.map_cons, List.map_nil]; rfl) ?_; refine (laws_toReply.calls ht6.out (HS.ro gp0) lp0).mono ?_; rintro _ wt6 ⟨v7, rfl, HQ⟩; refine ⟨_, rfl, ?_⟩; replace HS := HS.call HQ; clear HQ; (try clear F); obtain ⟨B7, d7, rfl, m7⟩ := HS.form 1 rfl; replace HS : Hp noFP w _ [.box g1 [.string a0.f0, .int .i64 a0.f1, .int .i64 a0.f2, .int .i64 a0.f3, .int .i64 a0.f4, .int .i64 a0.f5, .slice Ap0 a0.f6.length cp0, .string a0.f7] 44, .own (Zd.slice 171 q171) t6.f6 [.slice B7 t6.f6.length d7]] := HS; have F := HS.boxes; simp only [boxFacts, and_true] at F) | ((with_reducible refine gate_dst (N := 17) rfl ?_); refine ev_call rfl Try.func29 (by kernel_rfl) rfl #[.agg #[.string t6.f0, .int .i64 t6.f1, .int .i64 t6.f2, .int .i64 t6.f3, .int .i64 t6.f4, .int .i64 t6.f5, .slice B7 t6.f6.length d7, .string t6.f7]] rfl (by simp only [List.map_toArray, List.map_cons, List.map_nil]; rfl) ?_; refine (spec_ReplyText.calls ht9.out (HS.rd 1 rfl) m7).mono ?_; rintro _ wt9 ⟨rfl, HQ⟩; refine ⟨_, rfl, ?_⟩; replace HS := HS.call HQ; clear HQ; (try clear F); replace HS : Hp noFP w _ [.box g1 [.string a0.f0, .int .i64 a0.f1, .int .i64 a0.f2, .int .i64 a0.f3, .int .i64 a0.f4, .int .i64 a0.f5, .slice Ap0 a0.f6.length cp0, .string a0.f7] 44, .own (Zd.slice 171 q171) t6.f6 [.slice B7 t6.f6.length d7]] := HS; have F := HS.boxes; simp only [boxFacts, and_true] at F) | ((with_reducible refine gate_dst (N := 21) rfl ?_); refine ev_call rfl Try.func26 (by kernel_rfl) rfl #[.agg #[.string a0.f0, .int .i64 a0.f1, .int .i64 a0.f2, .int .i64 a0.f3, .int .i64 a0.f4, .int .i64 a0.f5, .slice Ap0 a0.f6.length cp0, .string a0.f7]] rfl (by simp only [List.map_toArray, List.map_cons, List.map_nil]; rfl) ?_; refine (laws_toReply.calls ht11.out (HS.ro gp0) lp0).mono ?_; rintro _ wt11 ⟨v12, rfl, HQ⟩; refine ⟨_, rfl, ?_⟩; replace HS := HS.call HQ; clear HQ; (try clear F); obtain ⟨B12, d12, rfl, m12⟩ := HS.form 2 rfl; replace HS : Hp noFP w _ [.box g1 [.string a0.f0, .int .i64 a0.f1, .int .i64 a0.f2, .int .i64 a0.f3, .int .i64 a0.f4, .int .i64 a0.f5, .slice Ap0 a0.f6.length cp0, .string a0.f7] 44, .own (Zd.slice 171 q171) t6.f6 [.slice B7 t6.f6.length d7], .own (Zd.slice 171 q171) t11.f6 [.slice B12 t11.f6.length d12]] := HS; have F := HS.boxes; simp only [boxFacts, and_true] at F) | ((with_reducible refine gate_dst (N := 6) rfl ?_); refine ev_box rfl HS (by first | (go_simp; done) | (go_simp; rfl)) rfl ?_; clear HS; (try clear F); intro g6 w6 HS; replace HS : Hp noFP w _ [.box g1 [.string a0.f0, .int .i64 a0.f1, .int .i64 a0.f2, .int .i64 a0.f3, .int .i64 a0.f4, .int .i64 a0.f5, .slice Ap0 a0.f6.length cp0, .string a0.f7] 44, .own (Zd.slice 171 q171) t6.f6 [.slice B7 t6.f6.length d7], .own (Zd.slice 171 q171) t11.f6 [.slice B12 t11.f6.length d12], .box g6 [.string (⟨#[]⟩ : ByteArray), .int .i64 0, .int .i64 0, .int .i64 0, .int .i64 0, .int .i64 0, .slice none 0 0, .string (⟨#[]⟩ : ByteArray)] 49] := HS; have F := HS.boxes; simp only [boxFacts, and_true] at F) | ((with_reducible refine gate_store (p := 6) rfl ?_); refine ev_store rfl 3 0 HS (seg := [.string t11.f0, .int .i64 t11.f1, .int .i64 t11.f2, .int .i64 t11.f3, .int .i64 t11.f4, .int .i64 t11.f5, .slice B12 t11.f6.length d12, .string t11.f7]) rfl rfl rfl rfl rfl rfl (by kernel_rfl) (by simp [wrt]) (by simp [Value.oneCell']) ?_; clear HS; (try clear F); intro w16 HS; replace HS : Hp noFP w _ [.box g1 [.string a0.f0, .int .i64 a0.f1, .int .i64 a0.f2, .int .i64 a0.f3, .int .i64 a0.f4, .int .i64 a0.f5, .slice Ap0 a0.f6.length cp0, .string a0.f7] 44, .own (Zd.slice 171 q171) t6.f6 [.slice B7 t6.f6.length d7], .own (Zd.slice 171 q171) t11.f6 [.slice B12 t11.f6.length d12], .box g6 [.string t11.f0, .int .i64 t11.f1, .int .i64 t11.f2, .int .i64 t11.f3, .int .i64 t11.f4, .int .i64 t11.f5, .slice B12 t11.f6.length d12, .string t11.f7] 49] := HS; have F := HS.boxes; simp only [boxFacts, and_true] at F) | ((with_reducible refine gate_dst (N := 24) rfl ?_); refine ev_call rfl Try.func30 (by kernel_rfl) rfl #[.agg #[.string t11.f0, .int .i64 t11.f1, .int .i64 t11.f2, .int .i64 t11.f3, .int .i64 t11.f4, .int .i64 t11.f5, .slice B12 t11.f6.length d12, .string t11.f7]] rfl (by simp only [List.map_toArray, List.map_cons, List.map_nil]; rfl) ?_; refine (impl_ReplyText.calls ht18.out (HS.rd 2 rfl) m12).mono ?_; rintro _ wt18 ⟨rfl, HQ⟩; refine ⟨_, rfl, ?_⟩; replace HS := HS.call HQ; clear HQ; (try clear F); replace HS : Hp noFP w _ [.box g1 [.string a0.f0, .int .i64 a0.f1, .int .i64 a0.f2, .int .i64 a0.f3, .int .i64 a0.f4, .int .i64 a0.f5, .slice Ap0 a0.f6.length cp0, .string a0.f7] 44, .own (Zd.slice 171 q171) t6.f6 [.slice B7 t6.f6.length d7], .own (Zd.slice 171 q171) t11.f6 [.slice B12 t11.f6.length d12], .box g6 [.string t11.f0, .int .i64 t11.f1, .int .i64 t11.f2, .int .i64 t11.f3, .int .i64 t11.f4, .int .i64 t11.f5, .slice B12 t11.f6.length d12, .string t11.f7] 49] := HS; have F := HS.boxes; simp only [boxFacts, and_true] at F))
     go_ret
     exact ⟨rfl, HS.pick [] (by decide) (by rfl)⟩
end Go.Proofs.Ytdcjcanobiohnaa.F
