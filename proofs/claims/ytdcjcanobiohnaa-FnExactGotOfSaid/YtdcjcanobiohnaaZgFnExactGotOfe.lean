/- Functions of the program and of the law, and that their calls do what is written here. -/
import Derived.Test.YtdcjcanobiohnaaZgFnExactGotOfd
namespace Go.Proofs.Ytdcjcanobiohnaa.F
open Go.RowKit Go.Proofs.YtdcjcanobiohnaaW.PrintWords Go.Proofs.YtdcjcanobiohnaaW.PrintLast Go.Proofs.YtdcjcanobiohnaaW.PrintMore Go.Proofs.Ytdcjcanobiohnaa.Z
attribute [local go_sem] max2_int min2_int max_two min_two max_three min_three max_four min_four
set_option linter.unusedVariables false
set_option linter.unusedSimpArgs false
set_option maxRecDepth 100000
/-! ### impl_copyReply: function 82 -/
def impl_copyReply.l0 : Nat → (List S171) → Int → S49 → Option (S49)
  | 0, _, _, _ => none
  | k + 1, l40, x42, a0 => (if x42 < (a0.f6.length : Int) then (if 0 ≤ x42 then (if x42 < (a0.f6.length : Int) then (if 0 + (rd_T171 a0.f6 x42).f2.length ≤ 8796093022208 then (lets (([] : List ByteArray) ++ ((rd_T171 a0.f6 x42).f2)) fun y53 => (if 0 + (rd_T171 a0.f6 x42).f3.length ≤ 8796093022208 then (lets (([] : List ByteArray) ++ ((rd_T171 a0.f6 x42).f3)) fun y58 => (if l40.length + 1 ≤ 2199023255552 then (lets (l40 ++ ([(⟨(rd_T171 a0.f6 x42).f0, (rd_T171 a0.f6 x42).f1, y53, y58⟩ : S171)] : List S171)) fun y65 => (impl_copyReply.l0 k y65 (wrap64 (x42 + 1)) a0)) else none)) else none)) else none) else none) else none) else (some (⟨a0.f0, a0.f1, a0.f2, a0.f3, a0.f4, a0.f5, l40, a0.f7⟩ : S49)))
def impl_copyReply.f (k : Nat) (a0 : S49) : Option (S49) := (impl_copyReply.l0 k [] 0 a0)
set_option maxHeartbeats 16000000 in
theorem impl_copyReply.calls {k : Nat} {a0 : S49} {Ap0 : Option Addr} {np0 cp0 : Nat} {r : S49} {w : World} (h : impl_copyReply.f k a0 = some r) (gp0 : k171.C w Ap0 np0 a0.f6) (lp0 : np0 ≤ cp0) :
    Calls Try.prog 82 #[.agg #[.string a0.f0, .int .i64 a0.f1, .int .i64 a0.f2, .int .i64 a0.f3, .int .i64 a0.f4, .int .i64 a0.f5, .slice Ap0 np0 cp0, .string a0.f7]] w (fun e w' => ∃ v0_ : Value, e = .returned (.agg #[.string r.f0, .int .i64 r.f1, .int .i64 r.f2, .int .i64 r.f3, .int .i64 r.f4, .int .i64 r.f5, v0_, .string r.f7]) ∧ Hp noFP w w' [.own (Zd.slice 171 q171) r.f6 [v0_]]) := by
 obtain rfl := C_len gp0
 have HS := Hp.start w
 have H := Aside0.mk h
 clear h
 unfold impl_copyReply.f at H
 go_enter Try.func82, Try.ntmps82
 go_wp2_with (first | ((with_reducible refine gate_dst (N := 1) rfl ?_); refine ev_box rfl HS (by first | (go_simp; done) | (go_simp; rfl)) rfl ?_; clear HS; (try clear F); intro g1 w1 HS; replace HS : Hp noFP w _ [.box g1 [.string a0.f0, .int .i64 a0.f1, .int .i64 a0.f2, .int .i64 a0.f3, .int .i64 a0.f4, .int .i64 a0.f5, .slice Ap0 a0.f6.length cp0, .string a0.f7] 49] := HS; have F := HS.boxes; simp only [boxFacts, wrt, clr0, clr1, List.cons_append, List.nil_append, List.append_nil, List.set_cons_zero, List.set_cons_succ, and_true] at F) | ((with_reducible refine gate_dst (N := 2) rfl ?_); refine ev_box rfl HS (by first | (go_simp; done) | (go_simp; rfl)) rfl ?_; clear HS; (try clear F); intro g2 w2 HS; replace HS : Hp noFP w _ [.box g1 [.string a0.f0, .int .i64 a0.f1, .int .i64 a0.f2, .int .i64 a0.f3, .int .i64 a0.f4, .int .i64 a0.f5, .slice Ap0 a0.f6.length cp0, .string a0.f7] 49, .box g2 [.string (⟨#[]⟩ : ByteArray), .int .i64 0, .int .i64 0, .int .i64 0, .int .i64 0, .int .i64 0, .slice none 0 0, .string (⟨#[]⟩ : ByteArray)] 49] := HS; have F := HS.boxes; simp only [boxFacts, wrt, clr0, clr1, List.cons_append, List.nil_append, List.append_nil, List.set_cons_zero, List.set_cons_succ, and_true] at F) | ((with_reducible refine gate_store (p := 8) rfl ?_); refine ev_store rfl 0 6 HS (seg := [.slice none 0 0]) rfl rfl rfl rfl rfl rfl (by kernel_rfl) (by simp [wrt]) (by simp [Value.oneCell']) ?_; clear HS; (try clear F); intro w5 HS; replace HS : Hp noFP w _ [.box g1 [.string a0.f0, .int .i64 a0.f1, .int .i64 a0.f2, .int .i64 a0.f3, .int .i64 a0.f4, .int .i64 a0.f5, .slice none 0 0, .string a0.f7] 49, .box g2 [.string (⟨#[]⟩ : ByteArray), .int .i64 0, .int .i64 0, .int .i64 0, .int .i64 0, .int .i64 0, .slice none 0 0, .string (⟨#[]⟩ : ByteArray)] 49] := HS; have F := HS.boxes; simp only [boxFacts, wrt, clr0, clr1, List.cons_append, List.nil_append, List.append_nil, List.set_cons_zero, List.set_cons_succ, and_true] at F))
 replace HS := HS.nil 171 q171
 go_loopg [11] k (fun kq v_11 w' => ∃ (l40 : List S171) (v41 : Value) (x42 : Int), v_11 = .int .i64 x42 ∧ Aside0 (impl_copyReply.l0 kq l40 x42 a0 = some r) ∧ Aside0 (kq ≤ k) ∧ Hp noFP w w' [.box g1 [.string a0.f0, .int .i64 a0.f1, .int .i64 a0.f2, .int .i64 a0.f3, .int .i64 a0.f4, .int .i64 a0.f5, v41, .string a0.f7] 49, .box g2 [.string (⟨#[]⟩ : ByteArray), .int .i64 0, .int .i64 0, .int .i64 0, .int .i64 0, .int .i64 0, .slice none 0 0, .string (⟨#[]⟩ : ByteArray)] 49, .own (Zd.slice 171 q171) l40 [v41]])
 case atStart => exact ⟨_, _, _, rfl, H, ⟨Nat.le_refl _⟩, HS⟩
 case round =>
  clear HS H; (try clear F)
  obtain ⟨l40, v41, x42, rfl, H, HKk39, HS⟩ := hrel
  obtain ⟨B41, d41, rfl, m41⟩ := HS.form 2 rfl
  have F := HS.boxes; simp only [boxFacts, wrt, clr0, clr1, List.cons_append, List.nil_append, List.append_nil, List.set_cons_zero, List.set_cons_succ, and_true] at F
  cases gk with
  | zero => exact absurd H.out (by simp [impl_copyReply.l0])
  | succ k39 =>
   simp only [impl_copyReply.l0] at H
   by_cases c44 : x42 < (a0.f6.length : Int)
   · replace H := zpos c44 H
     replace c44 := eq_true c44
     by_cases c45 : 0 ≤ x42
     case neg => exact zno c45 H
     replace H := zpos c45 H
     replace c45 := eq_true c45
     by_cases c46 : x42 < (a0.f6.length : Int)
     case neg => exact zno c46 H
     replace H := zpos c46 H
     replace c46 := eq_true c46
     obtain ⟨ad47, B47_2, d47_2, B47_3, d47_3, rfl, e47_0, e47_1, e47_2, e47_3, m47_2, y47_2, m47_3, y47_3⟩ := at_T171 gp0 x42 (of_eq_true c45) (of_eq_true c46)
     have e47_0_47 := HS.keepc e47_0
     have e47_1_47 := HS.keepc e47_1
     have e47_2_47 := HS.keepc e47_2
     have e47_3_47 := HS.keepc e47_3
     by_cases c52 : 0 + (rd_T171 a0.f6 x42).f2.length ≤ 8796093022208
     case neg => exact zno c52 H
     replace H := zpos c52 H
     replace c52 := eq_true c52
     obtain ⟨y53, e_y53, H⟩ := zlets H
     by_cases c57 : 0 + (rd_T171 a0.f6 x42).f3.length ≤ 8796093022208
     case neg => exact zno c57 H
     replace H := zpos c57 H
     replace c57 := eq_true c57
     obtain ⟨y58, e_y58, H⟩ := zlets H
     by_cases c64 : l40.length + 1 ≤ 2199023255552
     case neg => exact zno c64 H
     replace H := zpos c64 H
     replace c64 := eq_true c64
     obtain ⟨y65, e_y65, H⟩ := zlets H
     go_wp2_with (first | ((with_reducible refine gate_dst (N := 5) rfl ?_); refine ev_box rfl HS (by first | (go_simp; done) | (go_simp; rfl)) rfl ?_; clear HS; (try clear F); intro g5 w5 HS; replace HS : Hp noFP w _ [.box g1 [.string a0.f0, .int .i64 a0.f1, .int .i64 a0.f2, .int .i64 a0.f3, .int .i64 a0.f4, .int .i64 a0.f5, .slice B41 l40.length d41, .string a0.f7] 49, .box g2 [.string (⟨#[]⟩ : ByteArray), .int .i64 0, .int .i64 0, .int .i64 0, .int .i64 0, .int .i64 0, .slice none 0 0, .string (⟨#[]⟩ : ByteArray)] 49, .own (Zd.slice 171 q171) l40 [.slice B41 l40.length d41], .box g5 [.int .i64 0, .int .i64 0, .slice none 0 0, .slice none 0 0] 171] := HS; have F := HS.boxes; simp only [boxFacts, wrt, clr0, clr1, List.cons_append, List.nil_append, List.append_nil, List.set_cons_zero, List.set_cons_succ, and_true] at F) | ((with_reducible refine gate_store (p := 5) rfl ?_); refine ev_store rfl 3 0 HS (seg := [.int .i64 ((rd_T171 a0.f6 x42).f0), .int .i64 ((rd_T171 a0.f6 x42).f1), .slice B47_2 (rd_T171 a0.f6 x42).f2.length d47_2, .slice B47_3 (rd_T171 a0.f6 x42).f3.length d47_3]) rfl rfl rfl rfl rfl rfl (by kernel_rfl) (by simp [wrt]) (by simp [Value.oneCell']) ?_; clear HS; (try clear F); intro w50 HS; replace HS : Hp noFP w _ [.box g1 [.string a0.f0, .int .i64 a0.f1, .int .i64 a0.f2, .int .i64 a0.f3, .int .i64 a0.f4, .int .i64 a0.f5, .slice B41 l40.length d41, .string a0.f7] 49, .box g2 [.string (⟨#[]⟩ : ByteArray), .int .i64 0, .int .i64 0, .int .i64 0, .int .i64 0, .int .i64 0, .slice none 0 0, .string (⟨#[]⟩ : ByteArray)] 49, .own (Zd.slice 171 q171) l40 [.slice B41 l40.length d41], .box g5 [.int .i64 ((rd_T171 a0.f6 x42).f0), .int .i64 ((rd_T171 a0.f6 x42).f1), .slice B47_2 (rd_T171 a0.f6 x42).f2.length d47_2, .slice B47_3 (rd_T171 a0.f6 x42).f3.length d47_3] 171] := HS; have F := HS.boxes; simp only [boxFacts, wrt, clr0, clr1, List.cons_append, List.nil_append, List.append_nil, List.set_cons_zero, List.set_cons_succ, and_true] at F) | ((with_reducible refine gate_dst (N := 17) rfl ?_); replace HS := HS.nil 9 Zd.string; refine ev_appendr rfl Zd.string flat_string 4 HS rfl (HS.ro y47_2) rfl rfl rfl Try.underlying65 info9 rfl (by decide) (by decide) (by have := of_eq_true c52; first | omega | (simp only [List.length_cons, List.length_nil, List.length_append, Nat.zero_add] at this ⊢; omega)) ?_; clear HS; (try clear F); intro v53 w53 HS; rw [← e_y53.out] at HS; obtain ⟨B53, d53, rfl, m53⟩ := HS.form 5 rfl; replace HS : Hp noFP w _ [.box g1 [.string a0.f0, .int .i64 a0.f1, .int .i64 a0.f2, .int .i64 a0.f3, .int .i64 a0.f4, .int .i64 a0.f5, .slice B41 l40.length d41, .string a0.f7] 49, .box g2 [.string (⟨#[]⟩ : ByteArray), .int .i64 0, .int .i64 0, .int .i64 0, .int .i64 0, .int .i64 0, .slice none 0 0, .string (⟨#[]⟩ : ByteArray)] 49, .own (Zd.slice 171 q171) l40 [.slice B41 l40.length d41], .box g5 [.int .i64 ((rd_T171 a0.f6 x42).f0), .int .i64 ((rd_T171 a0.f6 x42).f1), .slice B47_2 (rd_T171 a0.f6 x42).f2.length d47_2, .slice B47_3 (rd_T171 a0.f6 x42).f3.length d47_3] 171, .emp, .own (Zd.slice 9 Zd.string) y53 [.slice B53 y53.length d53]] := HS; have F := HS.boxes; simp only [boxFacts, wrt, clr0, clr1, List.cons_append, List.nil_append, List.append_nil, List.set_cons_zero, List.set_cons_succ, and_true] at F) | ((with_reducible refine gate_store (p := 18) rfl ?_); refine ev_store rfl 3 2 HS (seg := [.slice B53 y53.length d53]) rfl rfl rfl rfl rfl rfl (by kernel_rfl) (by simp [wrt]) (by simp [Value.oneCell']) ?_; clear HS; (try clear F); intro w55 HS; replace HS : Hp noFP w _ [.box g1 [.string a0.f0, .int .i64 a0.f1, .int .i64 a0.f2, .int .i64 a0.f3, .int .i64 a0.f4, .int .i64 a0.f5, .slice B41 l40.length d41, .string a0.f7] 49, .box g2 [.string (⟨#[]⟩ : ByteArray), .int .i64 0, .int .i64 0, .int .i64 0, .int .i64 0, .int .i64 0, .slice none 0 0, .string (⟨#[]⟩ : ByteArray)] 49, .own (Zd.slice 171 q171) l40 [.slice B41 l40.length d41], .box g5 [.int .i64 ((rd_T171 a0.f6 x42).f0), .int .i64 ((rd_T171 a0.f6 x42).f1), .slice B53 y53.length d53, .slice B47_3 (rd_T171 a0.f6 x42).f3.length d47_3] 171, .emp, .own (Zd.slice 9 Zd.string) y53 [.slice B53 y53.length d53]] := HS; have F := HS.boxes; simp only [boxFacts, wrt, clr0, clr1, List.cons_append, List.nil_append, List.append_nil, List.set_cons_zero, List.set_cons_succ, and_true] at F) | ((with_reducible refine gate_dst (N := 21) rfl ?_); replace HS := HS.nil 9 Zd.string; refine ev_appendr rfl Zd.string flat_string 6 HS rfl (HS.ro y47_3) rfl rfl rfl Try.underlying65 info9 rfl (by decide) (by decide) (by have := of_eq_true c57; first | omega | (simp only [List.length_cons, List.length_nil, List.length_append, Nat.zero_add] at this ⊢; omega)) ?_; clear HS; (try clear F); intro v58 w58 HS; rw [← e_y58.out] at HS; obtain ⟨B58, d58, rfl, m58⟩ := HS.form 7 rfl; replace HS : Hp noFP w _ [.box g1 [.string a0.f0, .int .i64 a0.f1, .int .i64 a0.f2, .int .i64 a0.f3, .int .i64 a0.f4, .int .i64 a0.f5, .slice B41 l40.length d41, .string a0.f7] 49, .box g2 [.string (⟨#[]⟩ : ByteArray), .int .i64 0, .int .i64 0, .int .i64 0, .int .i64 0, .int .i64 0, .slice none 0 0, .string (⟨#[]⟩ : ByteArray)] 49, .own (Zd.slice 171 q171) l40 [.slice B41 l40.length d41], .box g5 [.int .i64 ((rd_T171 a0.f6 x42).f0), .int .i64 ((rd_T171 a0.f6 x42).f1), .slice B53 y53.length d53, .slice B47_3 (rd_T171 a0.f6 x42).f3.length d47_3] 171, .emp, .own (Zd.slice 9 Zd.string) y53 [.slice B53 y53.length d53], .emp, .own (Zd.slice 9 Zd.string) y58 [.slice B58 y58.length d58]] := HS; have F := HS.boxes; simp only [boxFacts, wrt, clr0, clr1, List.cons_append, List.nil_append, List.append_nil, List.set_cons_zero, List.set_cons_succ, and_true] at F) | ((with_reducible refine gate_store (p := 22) rfl ?_); refine ev_store rfl 3 3 HS (seg := [.slice B58 y58.length d58]) rfl rfl rfl rfl rfl rfl (by kernel_rfl) (by simp [wrt]) (by simp [Value.oneCell']) ?_; clear HS; (try clear F); intro w60 HS; replace HS : Hp noFP w _ [.box g1 [.string a0.f0, .int .i64 a0.f1, .int .i64 a0.f2, .int .i64 a0.f3, .int .i64 a0.f4, .int .i64 a0.f5, .slice B41 l40.length d41, .string a0.f7] 49, .box g2 [.string (⟨#[]⟩ : ByteArray), .int .i64 0, .int .i64 0, .int .i64 0, .int .i64 0, .int .i64 0, .slice none 0 0, .string (⟨#[]⟩ : ByteArray)] 49, .own (Zd.slice 171 q171) l40 [.slice B41 l40.length d41], .box g5 [.int .i64 ((rd_T171 a0.f6 x42).f0), .int .i64 ((rd_T171 a0.f6 x42).f1), .slice B53 y53.length d53, .slice B58 y58.length d58] 171, .emp, .own (Zd.slice 9 Zd.string) y53 [.slice B53 y53.length d53], .emp, .own (Zd.slice 9 Zd.string) y58 [.slice B58 y58.length d58]] := HS; have F := HS.boxes; simp only [boxFacts, wrt, clr0, clr1, List.cons_append, List.nil_append, List.append_nil, List.set_cons_zero, List.set_cons_succ, and_true] at F) | ((with_reducible refine gate_dst (N := 26) rfl ?_); refine ev_lit rfl q171 [5, 7] ([(⟨(rd_T171 a0.f6 x42).f0, (rd_T171 a0.f6 x42).f1, y53, y58⟩ : S171)] : List S171) ([.int .i64 ((rd_T171 a0.f6 x42).f0), .int .i64 ((rd_T171 a0.f6 x42).f1), .slice B53 y53.length d53, .slice B58 y58.length d58] ++ []) HS (by first | (go_simp; done) | (go_simp; rfl)) rfl rfl (Nat.le_of_ble_eq_true rfl) (MadeL.cons (js1 := [5, 7]) (c := [.int .i64 ((rd_T171 a0.f6 x42).f0), .int .i64 ((rd_T171 a0.f6 x42).f1), .slice B53 y53.length d53, .slice B58 y58.length d58]) rfl (fun S hd hh => q171_pack (x := (⟨(rd_T171 a0.f6 x42).f0, (rd_T171 a0.f6 x42).f1, y53, y58⟩ : S171)) hd (hh 5 (.own (Zd.slice 9 Zd.string) y53 [.slice B53 y53.length d53]) rfl) (hh 7 (.own (Zd.slice 9 Zd.string) y58 [.slice B58 y58.length d58]) rfl) (by decide)) MadeL.nil (by decide)) ?_; clear HS; (try clear F); intro v62 w62 HS; obtain ⟨B62, d62, rfl, m62⟩ := HS.formn 1 8 rfl rfl; replace HS : Hp noFP w _ [.box g1 [.string a0.f0, .int .i64 a0.f1, .int .i64 a0.f2, .int .i64 a0.f3, .int .i64 a0.f4, .int .i64 a0.f5, .slice B41 l40.length d41, .string a0.f7] 49, .box g2 [.string (⟨#[]⟩ : ByteArray), .int .i64 0, .int .i64 0, .int .i64 0, .int .i64 0, .int .i64 0, .slice none 0 0, .string (⟨#[]⟩ : ByteArray)] 49, .own (Zd.slice 171 q171) l40 [.slice B41 l40.length d41], .box g5 [.int .i64 ((rd_T171 a0.f6 x42).f0), .int .i64 ((rd_T171 a0.f6 x42).f1), .slice B53 y53.length d53, .slice B58 y58.length d58] 171, .emp, .emp, .emp, .emp, .own (Zd.slice 171 q171) ([(⟨(rd_T171 a0.f6 x42).f0, (rd_T171 a0.f6 x42).f1, y53, y58⟩ : S171)] : List S171) [.slice B62 1 d62]] := HS; have F := HS.boxes; simp only [boxFacts, wrt, clr0, clr1, List.cons_append, List.nil_append, List.append_nil, List.set_cons_zero, List.set_cons_succ, and_true] at F) | ((with_reducible refine gate_dst (N := 27) rfl ?_); refine ev_append rfl q171 2 8 HS rfl rfl (by decide) rfl rfl rfl Try.underlying47 info171 rfl (by decide) (by decide) (by have := of_eq_true c64; first | omega | (simp only [List.length_cons, List.length_nil, List.length_append, Nat.zero_add] at this ⊢; omega)) ?_; clear HS; (try clear F); intro v65 w65 HS; rw [← e_y65.out] at HS; obtain ⟨B65, d65, rfl, m65⟩ := HS.form 9 rfl; replace HS : Hp noFP w _ [.box g1 [.string a0.f0, .int .i64 a0.f1, .int .i64 a0.f2, .int .i64 a0.f3, .int .i64 a0.f4, .int .i64 a0.f5, .slice B41 l40.length d41, .string a0.f7] 49, .box g2 [.string (⟨#[]⟩ : ByteArray), .int .i64 0, .int .i64 0, .int .i64 0, .int .i64 0, .int .i64 0, .slice none 0 0, .string (⟨#[]⟩ : ByteArray)] 49, .emp, .box g5 [.int .i64 ((rd_T171 a0.f6 x42).f0), .int .i64 ((rd_T171 a0.f6 x42).f1), .slice B53 y53.length d53, .slice B58 y58.length d58] 171, .emp, .emp, .emp, .emp, .emp, .own (Zd.slice 171 q171) y65 [.slice B65 y65.length d65]] := HS; have F := HS.boxes; simp only [boxFacts, wrt, clr0, clr1, List.cons_append, List.nil_append, List.append_nil, List.set_cons_zero, List.set_cons_succ, and_true] at F) | ((with_reducible refine gate_store (p := 28) rfl ?_); refine ev_store rfl 0 6 HS (seg := [.slice B65 y65.length d65]) rfl rfl rfl rfl rfl rfl (by kernel_rfl) (by simp [wrt]) (by simp [Value.oneCell']) ?_; clear HS; (try clear F); intro w67 HS; replace HS : Hp noFP w _ [.box g1 [.string a0.f0, .int .i64 a0.f1, .int .i64 a0.f2, .int .i64 a0.f3, .int .i64 a0.f4, .int .i64 a0.f5, .slice B65 y65.length d65, .string a0.f7] 49, .box g2 [.string (⟨#[]⟩ : ByteArray), .int .i64 0, .int .i64 0, .int .i64 0, .int .i64 0, .int .i64 0, .slice none 0 0, .string (⟨#[]⟩ : ByteArray)] 49, .emp, .box g5 [.int .i64 ((rd_T171 a0.f6 x42).f0), .int .i64 ((rd_T171 a0.f6 x42).f1), .slice B53 y53.length d53, .slice B58 y58.length d58] 171, .emp, .emp, .emp, .emp, .emp, .own (Zd.slice 171 q171) y65 [.slice B65 y65.length d65]] := HS; have F := HS.boxes; simp only [boxFacts, wrt, clr0, clr1, List.cons_append, List.nil_append, List.append_nil, List.set_cons_zero, List.set_cons_succ, and_true] at F))
     go_roundg k39
     case measure => have := HKk39.out; omega
     case rel => exact ⟨_, _, _, rfl, H, ⟨by have := HKk39.out; omega⟩, HS.pick [0, 1, 9] (by decide) (by rfl)⟩
   · replace H := zneg c44 H
     replace c44 := eq_false c44
     obtain rfl := zsome H
     go_wp2_with (first | ((with_reducible refine gate_store (p := 2) rfl ?_); refine ev_store rfl 1 0 HS (seg := [.string a0.f0, .int .i64 a0.f1, .int .i64 a0.f2, .int .i64 a0.f3, .int .i64 a0.f4, .int .i64 a0.f5, .slice B41 l40.length d41, .string a0.f7]) rfl rfl rfl rfl rfl rfl (by kernel_rfl) (by simp [wrt]) (by simp [Value.oneCell']) ?_; clear HS; (try clear F); intro w69 HS; replace HS : Hp noFP w _ [.box g1 [.string a0.f0, .int .i64 a0.f1, .int .i64 a0.f2, .int .i64 a0.f3, .int .i64 a0.f4, .int .i64 a0.f5, .slice B41 l40.length d41, .string a0.f7] 49, .box g2 [.string a0.f0, .int .i64 a0.f1, .int .i64 a0.f2, .int .i64 a0.f3, .int .i64 a0.f4, .int .i64 a0.f5, .slice B41 l40.length d41, .string a0.f7] 49, .own (Zd.slice 171 q171) l40 [.slice B41 l40.length d41]] := HS; have F := HS.boxes; simp only [boxFacts, wrt, clr0, clr1, List.cons_append, List.nil_append, List.append_nil, List.set_cons_zero, List.set_cons_succ, and_true] at F))
     exact bodyPost_ret (results_single rfl (.cell _ _ _ _ _ rfl (HS.boxAt (i := 1) rfl) Try.underlying49 rfl (by kernel_rfl) .nil)) rfl ⟨_, rfl, HS.pick [2] (by decide) (by rfl)⟩
/-! ### impl_GotOf: function 34 -/
def impl_GotOf.l0 : Nat → Int → S37 → Int → Option (S49 × Bool)
  | 0, _, _, _ => none
  | k + 1, x8, a0, a1 => (if x8 < (a0.f3.length : Int) then (if 0 ≤ x8 then (if x8 < (a0.f3.length : Int) then (if (rd_T117 a0.f3 x8).f0 = a1 then ((impl_copyReply.f k (⟨(rd_T117 a0.f3 x8).f1.f0, (rd_T117 a0.f3 x8).f1.f1, (rd_T117 a0.f3 x8).f1.f2, (rd_T117 a0.f3 x8).f1.f3, (rd_T117 a0.f3 x8).f1.f4, (rd_T117 a0.f3 x8).f1.f5, (rd_T117 a0.f3 x8).f1.f6, (rd_T117 a0.f3 x8).f1.f7⟩ : S49)).bind fun t19 => (some ((⟨t19.f0, t19.f1, t19.f2, t19.f3, t19.f4, t19.f5, t19.f6, t19.f7⟩ : S49), true))) else (impl_GotOf.l0 k (wrap64 (x8 + 1)) a0 a1)) else none) else none) else (some ((⟨(⟨#[]⟩ : ByteArray), 0, 0, 0, 0, 0, ([] : List S171), (⟨#[]⟩ : ByteArray)⟩ : S49), false)))
def impl_GotOf.f (k : Nat) (a0 : S37) (a1 : Int) : Option (S49 × Bool) := (impl_GotOf.l0 k 0 a0 a1)
set_option maxHeartbeats 16000000 in
theorem impl_GotOf.calls {k : Nat} {a0 : S37} {a1 : Int} {Ap0 : Option Addr} {np0 cp0 : Nat} {Ap1 : Option Addr} {np1 cp1 : Nat} {Ap2 : Option Addr} {np2 cp2 : Nat} {r1 : S49} {r2 : Bool} {w : World} (h : impl_GotOf.f k a0 a1 = some (r1, r2)) (gp0 : k165.C w Ap0 np0 a0.f2) (lp0 : np0 ≤ cp0) (gp1 : k117.C w Ap1 np1 a0.f3) (lp1 : np1 ≤ cp1) (gp2 : (Kd.int .i64).C w Ap2 np2 a0.f4) (lp2 : np2 ≤ cp2) :
    Calls Try.prog 34 #[.agg #[.string a0.f0, .int .i64 a0.f1, .slice Ap0 np0 cp0, .slice Ap1 np1 cp1, .slice Ap2 np2 cp2], .int .i64 a1] w (fun e w' => ∃ v0_ : Value, e = .returned (.tuple #[.agg #[.string r1.f0, .int .i64 r1.f1, .int .i64 r1.f2, .int .i64 r1.f3, .int .i64 r1.f4, .int .i64 r1.f5, v0_, .string r1.f7], .bool r2]) ∧ Hp noFP w w' [.own (Zd.slice 171 q171) r1.f6 [v0_]]) := by
 obtain rfl := C_len gp0
 obtain rfl := C_len gp1
 obtain rfl := C_len gp2
 have HS := Hp.start w
 have H := Aside0.mk h
 clear h
 unfold impl_GotOf.f at H
 go_enter Try.func34, Try.ntmps34
 go_wp2_with (first | ((with_reducible refine gate_dst (N := 2) rfl ?_); refine ev_box rfl HS (by first | (go_simp; done) | (go_simp; rfl)) rfl ?_; clear HS; (try clear F); intro g2 w2 HS; replace HS : Hp noFP w _ [.box g2 [.string a0.f0, .int .i64 a0.f1, .slice Ap0 a0.f2.length cp0, .slice Ap1 a0.f3.length cp1, .slice Ap2 a0.f4.length cp2] 37] := HS; have F := HS.boxes; simp only [boxFacts, wrt, clr0, clr1, List.cons_append, List.nil_append, List.append_nil, List.set_cons_zero, List.set_cons_succ, and_true] at F) | ((with_reducible refine gate_dst (N := 4) rfl ?_); refine ev_box rfl HS (by first | (go_simp; done) | (go_simp; rfl)) rfl ?_; clear HS; (try clear F); intro g4 w4 HS; replace HS : Hp noFP w _ [.box g2 [.string a0.f0, .int .i64 a0.f1, .slice Ap0 a0.f2.length cp0, .slice Ap1 a0.f3.length cp1, .slice Ap2 a0.f4.length cp2] 37, .box g4 [.string (⟨#[]⟩ : ByteArray), .int .i64 0, .int .i64 0, .int .i64 0, .int .i64 0, .int .i64 0, .slice none 0 0, .string (⟨#[]⟩ : ByteArray)] 49] := HS; have F := HS.boxes; simp only [boxFacts, wrt, clr0, clr1, List.cons_append, List.nil_append, List.append_nil, List.set_cons_zero, List.set_cons_succ, and_true] at F))
 go_loopg [11] k (fun kq v_11 w' => ∃ (x8 : Int), v_11 = .int .i64 x8 ∧ Aside0 (impl_GotOf.l0 kq x8 a0 a1 = some (r1, r2)) ∧ Aside0 (kq ≤ k) ∧ Hp noFP w w' [.box g2 [.string a0.f0, .int .i64 a0.f1, .slice Ap0 a0.f2.length cp0, .slice Ap1 a0.f3.length cp1, .slice Ap2 a0.f4.length cp2] 37, .box g4 [.string (⟨#[]⟩ : ByteArray), .int .i64 0, .int .i64 0, .int .i64 0, .int .i64 0, .int .i64 0, .slice none 0 0, .string (⟨#[]⟩ : ByteArray)] 49])
 case atStart => exact ⟨_, rfl, H, ⟨Nat.le_refl _⟩, HS⟩
 case round =>
  clear HS H; (try clear F)
  obtain ⟨x8, rfl, H, HKk7, HS⟩ := hrel
  have F := HS.boxes; simp only [boxFacts, wrt, clr0, clr1, List.cons_append, List.nil_append, List.append_nil, List.set_cons_zero, List.set_cons_succ, and_true] at F
  cases gk with
  | zero => exact absurd H.out (by simp [impl_GotOf.l0])
  | succ k7 =>
   simp only [impl_GotOf.l0] at H
   by_cases c10 : x8 < (a0.f3.length : Int)
   · replace H := zpos c10 H
     replace c10 := eq_true c10
     by_cases c11 : 0 ≤ x8
     case neg => exact zno c11 H
     replace H := zpos c11 H
     replace c11 := eq_true c11
     by_cases c12 : x8 < (a0.f3.length : Int)
     case neg => exact zno c12 H
     replace H := zpos c12 H
     replace c12 := eq_true c12
     obtain ⟨ad13, B13_7, d13_7, rfl, e13_0, e13_1, e13_2, e13_3, e13_4, e13_5, e13_6, e13_7, e13_8, m13_7, y13_7⟩ := at_T117 gp1 x8 (of_eq_true c11) (of_eq_true c12)
     have e13_0_13 := HS.keepc e13_0
     have e13_1_13 := HS.keepc e13_1
     have e13_2_13 := HS.keepc e13_2
     have e13_3_13 := HS.keepc e13_3
     have e13_4_13 := HS.keepc e13_4
     have e13_5_13 := HS.keepc e13_5
     have e13_6_13 := HS.keepc e13_6
     have e13_7_13 := HS.keepc e13_7
     have e13_8_13 := HS.keepc e13_8
     go_upto_if 18 with (first | ((with_reducible refine gate_dst (N := 7) rfl ?_); refine ev_box rfl HS (by first | (go_simp; done) | (go_simp; rfl)) rfl ?_; clear HS; (try clear F); intro g7 w7 HS; replace HS : Hp noFP w _ [.box g2 [.string a0.f0, .int .i64 a0.f1, .slice Ap0 a0.f2.length cp0, .slice (some ad13) a0.f3.length cp1, .slice Ap2 a0.f4.length cp2] 37, .box g4 [.string (⟨#[]⟩ : ByteArray), .int .i64 0, .int .i64 0, .int .i64 0, .int .i64 0, .int .i64 0, .slice none 0 0, .string (⟨#[]⟩ : ByteArray)] 49, .box g7 [.int .i64 0, .string (⟨#[]⟩ : ByteArray), .int .i64 0, .int .i64 0, .int .i64 0, .int .i64 0, .int .i64 0, .slice none 0 0, .string (⟨#[]⟩ : ByteArray)] 117] := HS; have F := HS.boxes; simp only [boxFacts, wrt, clr0, clr1, List.cons_append, List.nil_append, List.append_nil, List.set_cons_zero, List.set_cons_succ, and_true] at F) | ((with_reducible refine gate_store (p := 7) rfl ?_); refine ev_store rfl 2 0 HS (seg := [.int .i64 ((rd_T117 a0.f3 x8).f0), .string ((rd_T117 a0.f3 x8).f1.f0), .int .i64 ((rd_T117 a0.f3 x8).f1.f1), .int .i64 ((rd_T117 a0.f3 x8).f1.f2), .int .i64 ((rd_T117 a0.f3 x8).f1.f3), .int .i64 ((rd_T117 a0.f3 x8).f1.f4), .int .i64 ((rd_T117 a0.f3 x8).f1.f5), .slice B13_7 (rd_T117 a0.f3 x8).f1.f6.length d13_7, .string ((rd_T117 a0.f3 x8).f1.f7)]) rfl rfl rfl rfl rfl rfl (by kernel_rfl) (by simp [wrt]) (by simp [Value.oneCell']) ?_; clear HS; (try clear F); intro w16 HS; replace HS : Hp noFP w _ [.box g2 [.string a0.f0, .int .i64 a0.f1, .slice Ap0 a0.f2.length cp0, .slice (some ad13) a0.f3.length cp1, .slice Ap2 a0.f4.length cp2] 37, .box g4 [.string (⟨#[]⟩ : ByteArray), .int .i64 0, .int .i64 0, .int .i64 0, .int .i64 0, .int .i64 0, .slice none 0 0, .string (⟨#[]⟩ : ByteArray)] 49, .box g7 [.int .i64 ((rd_T117 a0.f3 x8).f0), .string ((rd_T117 a0.f3 x8).f1.f0), .int .i64 ((rd_T117 a0.f3 x8).f1.f1), .int .i64 ((rd_T117 a0.f3 x8).f1.f2), .int .i64 ((rd_T117 a0.f3 x8).f1.f3), .int .i64 ((rd_T117 a0.f3 x8).f1.f4), .int .i64 ((rd_T117 a0.f3 x8).f1.f5), .slice B13_7 (rd_T117 a0.f3 x8).f1.f6.length d13_7, .string ((rd_T117 a0.f3 x8).f1.f7)] 117] := HS; have F := HS.boxes; simp only [boxFacts, wrt, clr0, clr1, List.cons_append, List.nil_append, List.append_nil, List.set_cons_zero, List.set_cons_succ, and_true] at F))
     by_cases c18 : (rd_T117 a0.f3 x8).f0 = a1
     · replace H := zpos c18 H
       have c18a := beq_iff_eq.mpr c18
       have c18b := bne_eq_false_iff_eq.mpr c18
       clear c18
       (try simp only [c18a, c18b, decide_true, decide_false, Bool.not_true, Bool.not_false])
       obtain ⟨t19, ht19, H⟩ := zbind H
       obtain ⟨rfl, rfl⟩ := zsome2 H
       go_wp2_with (first | ((with_reducible refine gate_dst (N := 21) rfl ?_); refine ev_call rfl Try.func82 (by kernel_rfl) rfl #[.agg #[.string ((rd_T117 a0.f3 x8).f1.f0), .int .i64 ((rd_T117 a0.f3 x8).f1.f1), .int .i64 ((rd_T117 a0.f3 x8).f1.f2), .int .i64 ((rd_T117 a0.f3 x8).f1.f3), .int .i64 ((rd_T117 a0.f3 x8).f1.f4), .int .i64 ((rd_T117 a0.f3 x8).f1.f5), .slice B13_7 (rd_T117 a0.f3 x8).f1.f6.length d13_7, .string ((rd_T117 a0.f3 x8).f1.f7)]] rfl (by simp only [List.map_toArray, List.map_cons, List.map_nil]; rfl) ?_; refine (impl_copyReply.calls ht19.out (HS.ro y13_7) m13_7).mono ?_; rintro _ wt19 ⟨v20, rfl, HQ⟩; refine ⟨_, rfl, ?_⟩; replace HS := HS.call HQ; clear HQ; (try clear F); obtain ⟨B20, d20, rfl, m20⟩ := HS.form 3 rfl; replace HS : Hp noFP w _ [.box g2 [.string a0.f0, .int .i64 a0.f1, .slice Ap0 a0.f2.length cp0, .slice (some ad13) a0.f3.length cp1, .slice Ap2 a0.f4.length cp2] 37, .box g4 [.string (⟨#[]⟩ : ByteArray), .int .i64 0, .int .i64 0, .int .i64 0, .int .i64 0, .int .i64 0, .slice none 0 0, .string (⟨#[]⟩ : ByteArray)] 49, .box g7 [.int .i64 ((rd_T117 a0.f3 x8).f0), .string ((rd_T117 a0.f3 x8).f1.f0), .int .i64 ((rd_T117 a0.f3 x8).f1.f1), .int .i64 ((rd_T117 a0.f3 x8).f1.f2), .int .i64 ((rd_T117 a0.f3 x8).f1.f3), .int .i64 ((rd_T117 a0.f3 x8).f1.f4), .int .i64 ((rd_T117 a0.f3 x8).f1.f5), .slice B13_7 (rd_T117 a0.f3 x8).f1.f6.length d13_7, .string ((rd_T117 a0.f3 x8).f1.f7)] 117, .own (Zd.slice 171 q171) t19.f6 [.slice B20 t19.f6.length d20]] := HS; have F := HS.boxes; simp only [boxFacts, wrt, clr0, clr1, List.cons_append, List.nil_append, List.append_nil, List.set_cons_zero, List.set_cons_succ, and_true] at F) | ((with_reducible refine gate_store (p := 4) rfl ?_); refine ev_store rfl 1 0 HS (seg := [.string t19.f0, .int .i64 t19.f1, .int .i64 t19.f2, .int .i64 t19.f3, .int .i64 t19.f4, .int .i64 t19.f5, .slice B20 t19.f6.length d20, .string t19.f7]) rfl rfl rfl rfl rfl rfl (by kernel_rfl) (by simp [wrt]) (by simp [Value.oneCell']) ?_; clear HS; (try clear F); intro w22 HS; replace HS : Hp noFP w _ [.box g2 [.string a0.f0, .int .i64 a0.f1, .slice Ap0 a0.f2.length cp0, .slice (some ad13) a0.f3.length cp1, .slice Ap2 a0.f4.length cp2] 37, .box g4 [.string t19.f0, .int .i64 t19.f1, .int .i64 t19.f2, .int .i64 t19.f3, .int .i64 t19.f4, .int .i64 t19.f5, .slice B20 t19.f6.length d20, .string t19.f7] 49, .box g7 [.int .i64 ((rd_T117 a0.f3 x8).f0), .string ((rd_T117 a0.f3 x8).f1.f0), .int .i64 ((rd_T117 a0.f3 x8).f1.f1), .int .i64 ((rd_T117 a0.f3 x8).f1.f2), .int .i64 ((rd_T117 a0.f3 x8).f1.f3), .int .i64 ((rd_T117 a0.f3 x8).f1.f4), .int .i64 ((rd_T117 a0.f3 x8).f1.f5), .slice B13_7 (rd_T117 a0.f3 x8).f1.f6.length d13_7, .string ((rd_T117 a0.f3 x8).f1.f7)] 117, .own (Zd.slice 171 q171) t19.f6 [.slice B20 t19.f6.length d20]] := HS; have F := HS.boxes; simp only [boxFacts, wrt, clr0, clr1, List.cons_append, List.nil_append, List.append_nil, List.set_cons_zero, List.set_cons_succ, and_true] at F))
       exact bodyPost_ret (results_list (rs := [.cell 4 49, .tmp 5]) rfl (by simp) (.cell _ _ _ _ _ rfl (HS.boxAt (i := 1) rfl) Try.underlying49 rfl (by kernel_rfl) (.tmp .nil))) rfl ⟨_, rfl, HS.pick [3] (by decide) (by rfl)⟩
     · replace H := zneg c18 H
       have c18a := beq_eq_false_iff_ne.mpr c18
       have c18b := bne_iff_ne.mpr c18
       clear c18
       (try simp only [c18a, c18b, decide_true, decide_false, Bool.not_true, Bool.not_false])
       go_wp2
       go_roundg k7
       case measure => have := HKk7.out; omega
       case rel => exact ⟨_, rfl, H, ⟨by have := HKk7.out; omega⟩, HS.pick [0, 1] (by decide) (by rfl)⟩
   · replace H := zneg c10 H
     replace c10 := eq_false c10
     obtain ⟨rfl, rfl⟩ := zsome2 H
     go_wp2_with (first | ((with_reducible refine gate_store (p := 4) rfl ?_); refine ev_store rfl 1 0 HS (seg := [.string (⟨#[]⟩ : ByteArray), .int .i64 0, .int .i64 0, .int .i64 0, .int .i64 0, .int .i64 0, .slice none 0 0, .string (⟨#[]⟩ : ByteArray)]) rfl rfl rfl rfl rfl rfl (by kernel_rfl) (by simp [wrt]) (by simp [Value.oneCell']) ?_; clear HS; (try clear F); intro w24 HS; replace HS : Hp noFP w _ [.box g2 [.string a0.f0, .int .i64 a0.f1, .slice Ap0 a0.f2.length cp0, .slice Ap1 a0.f3.length cp1, .slice Ap2 a0.f4.length cp2] 37, .box g4 [.string (⟨#[]⟩ : ByteArray), .int .i64 0, .int .i64 0, .int .i64 0, .int .i64 0, .int .i64 0, .slice none 0 0, .string (⟨#[]⟩ : ByteArray)] 49] := HS; have F := HS.boxes; simp only [boxFacts, wrt, clr0, clr1, List.cons_append, List.nil_append, List.append_nil, List.set_cons_zero, List.set_cons_succ, and_true] at F))
     replace HS := HS.nil 171 q171
     exact bodyPost_ret (results_list (rs := [.cell 4 49, .tmp 5]) rfl (by simp) (.cell _ _ _ _ _ rfl (HS.boxAt (i := 1) rfl) Try.underlying49 rfl (by kernel_rfl) (.tmp .nil))) rfl ⟨_, rfl, HS.pick [2] (by decide) (by rfl)⟩
/-! ### laws_markReply: function 35 -/
def laws_markReply.f (k : Nat) (a0 : S49) (a1 : Int) : Option (Int × (List S171)) := ((laws_markAnswerS.f k a0.f6 a1).bind fun t4 => (some (t4.1, t4.2)))
set_option maxHeartbeats 16000000 in
theorem laws_markReply.calls {k : Nat} {a0 : S49} {a1 : Int} {A : FP} {vp0 : Value} {r1 : Int} {r2 : (List S171)} {w : World} (h : laws_markReply.f k a0 a1 = some (r1, r2)) (HS : Hp A w w [.own (Zd.slice 171 q171) a0.f6 [vp0]]) :
    Calls Try.prog 35 #[.agg #[.string a0.f0, .int .i64 a0.f1, .int .i64 a0.f2, .int .i64 a0.f3, .int .i64 a0.f4, .int .i64 a0.f5, vp0, .string a0.f7], .int .i64 a1] w (fun e w' => e = .returned (.int .i64 r1) ∧ Hp A w w' [.own (Zd.slice 171 q171) r2 [vp0]]) := by
 obtain ⟨B1, d1, rfl, m1⟩ := HS.form 0 rfl
 have H := Aside0.mk h
 clear h
 unfold laws_markReply.f at H
 go_enter Try.func35, Try.ntmps35
 obtain ⟨t4, ht4, H⟩ := zbind H
 obtain ⟨rfl, rfl⟩ := zsome2 H
 go_wp2_with (first | ((with_reducible refine gate_dst (N := 2) rfl ?_); refine ev_box rfl HS (by first | (go_simp; done) | (go_simp; rfl)) rfl ?_; clear HS; (try clear F); intro g2 w2 HS; replace HS : Hp A w _ [.own (Zd.slice 171 q171) a0.f6 [.slice B1 a0.f6.length d1], .box g2 [.string a0.f0, .int .i64 a0.f1, .int .i64 a0.f2, .int .i64 a0.f3, .int .i64 a0.f4, .int .i64 a0.f5, .slice B1 a0.f6.length d1, .string a0.f7] 49] := HS; have F := HS.boxes; simp only [boxFacts, wrt, clr0, clr1, List.cons_append, List.nil_append, List.append_nil, List.set_cons_zero, List.set_cons_succ, and_true] at F) | ((with_reducible refine gate_dst (N := 8) rfl ?_); refine HS.lend [0] (by decide) [.own (Zd.slice 171 q171) a0.f6 [.slice B1 a0.f6.length d1]] rfl (fun A' HA HB => ?_); refine ev_call rfl Try.func83 (by kernel_rfl) rfl #[.slice B1 a0.f6.length d1, .int .i64 a1] rfl (by simp only [List.map_toArray, List.map_cons, List.map_nil]; rfl) ?_; refine (laws_markAnswerS.calls ht4.out HA).mono ?_; rintro _ wt4 ⟨rfl, HQ⟩; refine ⟨_, rfl, ?_⟩; replace HS : Hp A w _ [.own (Zd.slice 171 q171) t4.2 [.slice B1 a0.f6.length d1], .box g2 [.string a0.f0, .int .i64 a0.f1, .int .i64 a0.f2, .int .i64 a0.f3, .int .i64 a0.f4, .int .i64 a0.f5, .slice B1 a0.f6.length d1, .string a0.f7] 49] := HB _ _ HQ (Nat.le_of_ble_eq_true rfl); clear HQ HA HB; (try clear F); replace HS : Hp A w _ [.own (Zd.slice 171 q171) t4.2 [.slice B1 a0.f6.length d1], .box g2 [.string a0.f0, .int .i64 a0.f1, .int .i64 a0.f2, .int .i64 a0.f3, .int .i64 a0.f4, .int .i64 a0.f5, .slice B1 a0.f6.length d1, .string a0.f7] 49] := HS; have F := HS.boxes; simp only [boxFacts, wrt, clr0, clr1, List.cons_append, List.nil_append, List.append_nil, List.set_cons_zero, List.set_cons_succ, and_true] at F))
 go_ret
 exact ⟨rfl, HS.pick [0] (by decide) (by rfl)⟩
/-! ### laws_heldStringS: function 97 -/
def laws_heldStringS.l0 : Nat → Int → Int → (List ByteArray) → Option (Int)
  | 0, _, _, _ => none
  | k + 1, x9, x10, a0 => (if x10 < (a0.length : Int) then (if 0 ≤ x10 then (if x10 < (a0.length : Int) then ((laws_markText.f k x9).bind fun t205001 => (if (rdOf ByteArray.empty a0 x10).toList = t205001.toList then (laws_heldStringS.l0 k (wrap64 (x9 + 1)) (wrap64 (x10 + 1)) a0) else (some (-1)))) else none) else none) else (some x9))
def laws_heldStringS.f (k : Nat) (a0 : (List ByteArray)) (a1 : Int) : Option (Int) := (laws_heldStringS.l0 k a1 0 a0)
def laws_heldStringS.T4 : Bool × List (List Nat × List Nat) := (true, [([], []), ([], []), ([0, 1], [0, 1]), ([2], [2]), ([], []), ([4], [4]), ([3, 5], [3, 5])])
theorem laws_heldStringS.tT4 : rtab .any (opsOf Try.f97 4) = laws_heldStringS.T4 := by kernel_rfl
set_option maxHeartbeats 16000000 in
theorem laws_heldStringS.calls {k : Nat} {a0 : (List ByteArray)} {a1 : Int} {Ap0 : Option Addr} {np0 cp0 : Nat} {r : Int} {w : World} (h : laws_heldStringS.f k a0 a1 = some r) (gp0 : Kd.string.C w Ap0 np0 a0) (lp0 : np0 ≤ cp0) :
    Calls Try.prog 97 #[.slice Ap0 np0 cp0, .int .i64 a1] w (fun e w' => e = .returned (.int .i64 r) ∧ Hp noFP w w' []) := by
 obtain rfl := C_len gp0
 have HS := Hp.start w
 have H := Aside0.mk h
 clear h
 unfold laws_heldStringS.f at H
 go_enter Try.func97, Try.ntmps97
 go_wp2
 go_loopg [1, 5] k (fun kq v_1 v_5 w' => ∃ (x9 : Int) (x10 : Int), v_1 = .int .i64 x9 ∧ v_5 = .int .i64 x10 ∧ Aside0 (laws_heldStringS.l0 kq x9 x10 a0 = some r) ∧ Aside0 (kq ≤ k) ∧ Hp noFP w w' [])
 case atStart => exact ⟨_, _, rfl, rfl, H, ⟨Nat.le_refl _⟩, HS⟩
 case round =>
  clear HS H; (try clear F)
  obtain ⟨x9, x10, rfl, rfl, H, HKk8, HS⟩ := hrel
  cases gk with
  | zero => exact absurd H.out (by simp [laws_heldStringS.l0])
  | succ k8 =>
   simp only [laws_heldStringS.l0] at H
   by_cases c12 : x10 < (a0.length : Int)
   · replace H := zpos c12 H
     replace c12 := eq_true c12
     (try go_wp2)
     by_cases c202001 : 0 ≤ x10
     case neg => exact zno c202001 H
     replace H := zpos c202001 H
     replace c202001 := eq_true c202001
     by_cases c202002 : x10 < (a0.length : Int)
     case neg => exact zno c202002 H
     replace H := zpos c202002 H
     replace c202002 := eq_true c202002
     obtain ⟨ad202003, rfl, e202003_0⟩ := Kd.at_string gp0 x10 (of_eq_true c202001) (of_eq_true c202002)
     obtain ⟨t205001, ht205001, H⟩ := zbind H
     refine dr_start [] HS #[false, false, false, false, false, false, false] (by kernel_rfl) rfl rfl laws_heldStringS.tT4 (fun w14 HT HS HH => ?_)
     (try clear F)
     refine dr_pure 0 (some 12) HT (v := ?_) (a' := ?_) rfl rfl (by kernel_rfl) (fun _ _ _ h => h) (.inl ⟨by rfl, ?_⟩) ?_ ?_
     rotate_left
     · intro w'; go_simp; with_reducible rfl
     rotate_left
     · simp only [Act.put, List.setIfInBounds_toArray, List.set_cons_zero, List.set_cons_succ, i64_w, i32_w]; rfl
     refine dr_pure 1 (some 13) HT (v := ?_) (a' := ?_) rfl rfl (by kernel_rfl) (fun _ _ _ h => h) (.inl ⟨by rfl, ?_⟩) ?_ ?_
     rotate_left
     · intro w'; go_simp; with_reducible rfl
     rotate_left
     · simp only [Act.put, List.setIfInBounds_toArray, List.set_cons_zero, List.set_cons_succ, i64_w, i32_w]; rfl
     refine dr_pure 2 (some 14) HT (v := ?_) (a' := ?_) rfl rfl (by kernel_rfl) (fun _ _ _ h => h) (.inl ⟨by rfl, ?_⟩) ?_ ?_
     rotate_left
     · intro w'; go_simp; with_reducible rfl
     rotate_left
     · simp only [Act.put, List.setIfInBounds_toArray, List.set_cons_zero, List.set_cons_succ, i64_w, i32_w]; rfl
     refine dr_take 3 (some 15) HT HH (v := ?_) (a' := ?_) rfl rfl (by kernel_rfl) (fun _ _ _ h => h) (.inl ⟨by rfl, ?_⟩) ?_ ?_
     rotate_left
     · rintro w' ⟨rs', HS'⟩; have e202003_0 := HS'.keepc e202003_0; go_simp; with_reducible rfl
     rotate_left
     · simp only [Act.put, List.setIfInBounds_toArray, List.set_cons_zero, List.set_cons_succ, i64_w, i32_w]; rfl
     refine dr_pure 4 (some 16) HT (v := ?_) (a' := ?_) rfl rfl (by kernel_rfl) (fun _ _ _ h => h) (.inl ⟨by rfl, ?_⟩) ?_ ?_
     rotate_left
     · intro w'; go_simp; with_reducible rfl
     rotate_left
     · simp only [Act.put, List.setIfInBounds_toArray, List.set_cons_zero, List.set_cons_succ, i64_w, i32_w]; rfl
     refine dr_one 5 HT rfl (by kernel_rfl) (by decide) (fun K hK => ?_)
     refine goes_ Try.func55 (by kernel_rfl) rfl #[.int .i64 x9] (by rfl) rfl rfl (by simp only [List.map_toArray, List.map_cons, List.map_nil]; rfl) ?_; refine (laws_markText.calls ht205001.out).mono ?_; rintro _ wt205001 ⟨rfl, HQ⟩; refine ⟨_, rfl, ?_⟩; replace HS := HS.call HQ; clear HQ; (try clear F)
     replace HS : Hp noFP w _ [] := HS
     refine hK.out _ _ ⟨_, HS⟩ (fun HH => ?_)
     clear hK K
     refine norm_ (a' := ?_) ?_ ?_
     rotate_left
     · show Act.put _ (some 17) _ = _; simp only [Act.put, List.setIfInBounds_toArray, List.set_cons_zero, List.set_cons_succ, i64_w, i32_w]; rfl
     refine dr_pure 6 (some 18) HT (v := ?_) (a' := ?_) rfl rfl (by kernel_rfl) (fun _ _ _ h => h) (.inl ⟨by rfl, ?_⟩) ?_ ?_
     rotate_left
     · intro w'; go_simp; with_reducible rfl
     rotate_left
     · simp only [Act.put, List.setIfInBounds_toArray, List.set_cons_zero, List.set_cons_succ, i64_w, i32_w]; rfl
     refine done_ (done_of HT.out (by kernel_rfl)) ?_
     by_cases c16 : (rdOf ByteArray.empty a0 x10).toList = t205001.toList
     · replace H := zpos c16 H
       have c16a := beq_iff_eq.mpr c16
       have c16b := bne_eq_false_iff_eq.mpr c16
       clear c16
       (try simp only [c16a, c16b, decide_true, decide_false, Bool.not_true, Bool.not_false])
       go_wp2
       go_roundg k8
       case measure => have := HKk8.out; omega
       case rel => exact ⟨_, _, rfl, rfl, H, ⟨by have := HKk8.out; omega⟩, HS.pick [] (by decide) (by rfl)⟩
     · replace H := zneg c16 H
       have c16a := beq_eq_false_iff_ne.mpr c16
       have c16b := bne_iff_ne.mpr c16
       clear c16
       (try simp only [c16a, c16b, decide_true, decide_false, Bool.not_true, Bool.not_false])
       obtain rfl := zsome H
       go_wp2
       go_ret
       exact ⟨rfl, HS.pick [] (by decide) (by rfl)⟩
   · replace H := zneg c12 H
     replace c12 := eq_false c12
     obtain rfl := zsome H
     go_wp2
     go_ret
     exact ⟨rfl, HS.pick [] (by decide) (by rfl)⟩
/-! ### laws_heldAnswerS: function 84 -/
def laws_heldAnswerS.l0 : Nat → Int → Int → (List S171) → Option (Int)
  | 0, _, _, _ => none
  | k + 1, x11, x12, a0 => (if x12 < (a0.length : Int) then (if 0 ≤ x12 then (if x12 < (a0.length : Int) then (if (rd_T171 a0 x12).f0 = x11 then (if (rd_T171 a0 x12).f1 = (wrap64 (x11 + 1)) then ((laws_heldStringS.f k ((rd_T171 a0 x12).f2) (wrap64 ((wrap64 (x11 + 1)) + 1))).bind fun t22 => (if t22 < 0 then (some (-1)) else ((laws_heldStringS.f k ((rd_T171 a0 x12).f3) t22).bind fun t26 => (if t26 < 0 then (some (-1)) else (laws_heldAnswerS.l0 k t26 (wrap64 (x12 + 1)) a0))))) else (some (-1))) else (some (-1))) else none) else none) else (some x11))
def laws_heldAnswerS.f (k : Nat) (a0 : (List S171)) (a1 : Int) : Option (Int) := (laws_heldAnswerS.l0 k a1 0 a0)
set_option maxHeartbeats 16000000 in
theorem laws_heldAnswerS.calls {k : Nat} {a0 : (List S171)} {a1 : Int} {Ap0 : Option Addr} {np0 cp0 : Nat} {r : Int} {w : World} (h : laws_heldAnswerS.f k a0 a1 = some r) (gp0 : k171.C w Ap0 np0 a0) (lp0 : np0 ≤ cp0) :
    Calls Try.prog 84 #[.slice Ap0 np0 cp0, .int .i64 a1] w (fun e w' => e = .returned (.int .i64 r) ∧ Hp noFP w w' []) := by
 obtain rfl := C_len gp0
 have HS := Hp.start w
 have H := Aside0.mk h
 clear h
 unfold laws_heldAnswerS.f at H
 go_enter Try.func84, Try.ntmps84
 go_wp2
 go_loopg [1, 5] k (fun kq v_1 v_5 w' => ∃ (x11 : Int) (x12 : Int), v_1 = .int .i64 x11 ∧ v_5 = .int .i64 x12 ∧ Aside0 (laws_heldAnswerS.l0 kq x11 x12 a0 = some r) ∧ Aside0 (kq ≤ k) ∧ Hp noFP w w' [])
 case atStart => exact ⟨_, _, rfl, rfl, H, ⟨Nat.le_refl _⟩, HS⟩
 case round =>
  clear HS H; (try clear F)
  obtain ⟨x11, x12, rfl, rfl, H, HKk10, HS⟩ := hrel
  cases gk with
  | zero => exact absurd H.out (by simp [laws_heldAnswerS.l0])
  | succ k10 =>
   simp only [laws_heldAnswerS.l0] at H
   by_cases c14 : x12 < (a0.length : Int)
   · replace H := zpos c14 H
     replace c14 := eq_true c14
     by_cases c15 : 0 ≤ x12
     case neg => exact zno c15 H
     replace H := zpos c15 H
     replace c15 := eq_true c15
     by_cases c16 : x12 < (a0.length : Int)
     case neg => exact zno c16 H
     replace H := zpos c16 H
     replace c16 := eq_true c16
     obtain ⟨ad17, B17_2, d17_2, B17_3, d17_3, rfl, e17_0, e17_1, e17_2, e17_3, m17_2, y17_2, m17_3, y17_3⟩ := at_T171 gp0 x12 (of_eq_true c15) (of_eq_true c16)
     have e17_0_17 := HS.keepc e17_0
     have e17_1_17 := HS.keepc e17_1
     have e17_2_17 := HS.keepc e17_2
     have e17_3_17 := HS.keepc e17_3
     by_cases c18 : (rd_T171 a0 x12).f0 = x11
     · replace H := zpos c18 H
       have c18a := beq_iff_eq.mpr c18
       have c18b := bne_eq_false_iff_eq.mpr c18
       clear c18
       have e17_0_19 := HS.keepc e17_0
       have e17_1_19 := HS.keepc e17_1
       have e17_2_19 := HS.keepc e17_2
       have e17_3_19 := HS.keepc e17_3
       by_cases c20 : (rd_T171 a0 x12).f1 = (wrap64 (x11 + 1))
       · replace H := zpos c20 H
         have c20a := beq_iff_eq.mpr c20
         have c20b := bne_eq_false_iff_eq.mpr c20
         clear c20
         have e17_0_21 := HS.keepc e17_0
         have e17_1_21 := HS.keepc e17_1
         have e17_2_21 := HS.keepc e17_2
         have e17_3_21 := HS.keepc e17_3
         obtain ⟨t22, ht22, H⟩ := zbind H
         go_upto_if 38 with (first | ((with_reducible refine gate_dst (N := 36) rfl ?_); refine ev_call rfl Try.func97 (by kernel_rfl) rfl #[.slice B17_2 (rd_T171 a0 x12).f2.length d17_2, .int .i64 (wrap64 ((wrap64 (x11 + 1)) + 1))] rfl (by simp only [List.map_toArray, List.map_cons, List.map_nil]; rfl) ?_; refine (laws_heldStringS.calls ht22.out (HS.ro y17_2) m17_2).mono ?_; rintro _ wt22 ⟨rfl, HQ⟩; refine ⟨_, rfl, ?_⟩; replace HS := HS.call HQ; clear HQ; (try clear F); replace HS : Hp noFP w _ [] := HS))
         by_cases c24 : t22 < 0
         · replace H := zpos c24 H
           replace c24 := eq_true c24
           (try simp only [c24, decide_true, decide_false, Bool.not_true, Bool.not_false])
           obtain rfl := zsome H
           go_wp2
           go_ret
           exact ⟨rfl, HS.pick [] (by decide) (by rfl)⟩
         · replace H := zneg c24 H
           replace c24 := eq_false c24
           (try simp only [c24, decide_true, decide_false, Bool.not_true, Bool.not_false])
           have e17_0_25 := HS.keepc e17_0
           have e17_1_25 := HS.keepc e17_1
           have e17_2_25 := HS.keepc e17_2
           have e17_3_25 := HS.keepc e17_3
           obtain ⟨t26, ht26, H⟩ := zbind H
           go_upto_if 47 with (first | ((with_reducible refine gate_dst (N := 45) rfl ?_); refine ev_call rfl Try.func97 (by kernel_rfl) rfl #[.slice B17_3 (rd_T171 a0 x12).f3.length d17_3, .int .i64 t22] rfl (by simp only [List.map_toArray, List.map_cons, List.map_nil]; rfl) ?_; refine (laws_heldStringS.calls ht26.out (HS.ro y17_3) m17_3).mono ?_; rintro _ wt26 ⟨rfl, HQ⟩; refine ⟨_, rfl, ?_⟩; replace HS := HS.call HQ; clear HQ; (try clear F); replace HS : Hp noFP w _ [] := HS))
           by_cases c28 : t26 < 0
           · replace H := zpos c28 H
             replace c28 := eq_true c28
             (try simp only [c28, decide_true, decide_false, Bool.not_true, Bool.not_false])
             obtain rfl := zsome H
             go_wp2
             go_ret
             exact ⟨rfl, HS.pick [] (by decide) (by rfl)⟩
           · replace H := zneg c28 H
             replace c28 := eq_false c28
             (try simp only [c28, decide_true, decide_false, Bool.not_true, Bool.not_false])
             go_wp2
             go_roundg k10
             case measure => have := HKk10.out; omega
             case rel => exact ⟨_, _, rfl, rfl, H, ⟨by have := HKk10.out; omega⟩, HS.pick [] (by decide) (by rfl)⟩
       · replace H := zneg c20 H
         have c20a := beq_eq_false_iff_ne.mpr c20
         have c20b := bne_iff_ne.mpr c20
         clear c20
         obtain rfl := zsome H
         go_wp2
         go_ret
         exact ⟨rfl, HS.pick [] (by decide) (by rfl)⟩
     · replace H := zneg c18 H
       have c18a := beq_eq_false_iff_ne.mpr c18
       have c18b := bne_iff_ne.mpr c18
       clear c18
       obtain rfl := zsome H
       go_wp2
       go_ret
       exact ⟨rfl, HS.pick [] (by decide) (by rfl)⟩
   · replace H := zneg c14 H
     replace c14 := eq_false c14
     obtain rfl := zsome H
     go_wp2
     go_ret
     exact ⟨rfl, HS.pick [] (by decide) (by rfl)⟩
/-! ### laws_heldReply: function 36 -/
def laws_heldReply.f (k : Nat) (a0 : S49) (a1 : Int) : Option (Int) := ((laws_heldAnswerS.f k a0.f6 a1).bind fun t3 => (if t3 < 0 then (some (-1)) else (some t3)))
set_option maxHeartbeats 16000000 in
theorem laws_heldReply.calls {k : Nat} {a0 : S49} {a1 : Int} {Ap0 : Option Addr} {np0 cp0 : Nat} {r : Int} {w : World} (h : laws_heldReply.f k a0 a1 = some r) (gp0 : k171.C w Ap0 np0 a0.f6) (lp0 : np0 ≤ cp0) :
    Calls Try.prog 36 #[.agg #[.string a0.f0, .int .i64 a0.f1, .int .i64 a0.f2, .int .i64 a0.f3, .int .i64 a0.f4, .int .i64 a0.f5, .slice Ap0 np0 cp0, .string a0.f7], .int .i64 a1] w (fun e w' => e = .returned (.int .i64 r) ∧ Hp noFP w w' []) := by
 obtain rfl := C_len gp0
 have HS := Hp.start w
 have H := Aside0.mk h
 clear h
 unfold laws_heldReply.f at H
 go_enter Try.func36, Try.ntmps36
 obtain ⟨t3, ht3, H⟩ := zbind H
 go_upto_if 10 with (first | ((with_reducible refine gate_dst (N := 2) rfl ?_); refine ev_box rfl HS (by first | (go_simp; done) | (go_simp; rfl)) rfl ?_; clear HS; (try clear F); intro g2 w2 HS; replace HS : Hp noFP w _ [.box g2 [.string a0.f0, .int .i64 a0.f1, .int .i64 a0.f2, .int .i64 a0.f3, .int .i64 a0.f4, .int .i64 a0.f5, .slice Ap0 a0.f6.length cp0, .string a0.f7] 49] := HS; have F := HS.boxes; simp only [boxFacts, wrt, clr0, clr1, List.cons_append, List.nil_append, List.append_nil, List.set_cons_zero, List.set_cons_succ, and_true] at F) | ((with_reducible refine gate_dst (N := 8) rfl ?_); refine ev_call rfl Try.func84 (by kernel_rfl) rfl #[.slice Ap0 a0.f6.length cp0, .int .i64 a1] rfl (by simp only [List.map_toArray, List.map_cons, List.map_nil]; rfl) ?_; refine (laws_heldAnswerS.calls ht3.out (HS.ro gp0) lp0).mono ?_; rintro _ wt3 ⟨rfl, HQ⟩; refine ⟨_, rfl, ?_⟩; replace HS := HS.call HQ; clear HQ; (try clear F); replace HS : Hp noFP w _ [.box g2 [.string a0.f0, .int .i64 a0.f1, .int .i64 a0.f2, .int .i64 a0.f3, .int .i64 a0.f4, .int .i64 a0.f5, .slice Ap0 a0.f6.length cp0, .string a0.f7] 49] := HS; have F := HS.boxes; simp only [boxFacts, wrt, clr0, clr1, List.cons_append, List.nil_append, List.append_nil, List.set_cons_zero, List.set_cons_succ, and_true] at F))
 by_cases c5 : t3 < 0
 · replace H := zpos c5 H
   replace c5 := eq_true c5
   (try simp only [c5, decide_true, decide_false, Bool.not_true, Bool.not_false])
   obtain rfl := zsome H
   go_wp2
   go_ret
   exact ⟨rfl, HS.pick [] (by decide) (by rfl)⟩
 · replace H := zneg c5 H
   replace c5 := eq_false c5
   (try simp only [c5, decide_true, decide_false, Bool.not_true, Bool.not_false])
   obtain rfl := zsome H
   go_wp2
   go_ret
   exact ⟨rfl, HS.pick [] (by decide) (by rfl)⟩
end Go.Proofs.Ytdcjcanobiohnaa.F
