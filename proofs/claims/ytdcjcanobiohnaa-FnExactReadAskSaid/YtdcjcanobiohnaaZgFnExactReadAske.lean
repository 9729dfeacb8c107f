/- Functions of the program and of the law, and that their calls do what is written here. -/
import Derived.Test.YtdcjcanobiohnaaZgFnExactReadAskc
import Derived.Test.YtdcjcanobiohnaaZgFnExactReadAskd
namespace Go.Proofs.Ytdcjcanobiohnaa.F
open Go.RowKit Go.Proofs.YtdcjcanobiohnaaW.PrintWords Go.Proofs.YtdcjcanobiohnaaW.PrintLast Go.Proofs.YtdcjcanobiohnaaW.PrintMore Go.Proofs.Ytdcjcanobiohnaa.Z
attribute [local go_sem] max2_int min2_int max_two min_two max_three min_three max_four min_four
set_option linter.unusedVariables false
set_option linter.unusedSimpArgs false
set_option maxRecDepth 100000
/-! ### impl_opener_texts_0: function 92 -/
mutual
def impl_opener_texts_0.l0 : Nat → (List ByteArray) → Int → Bool → S107 → Int → Option ((List ByteArray) × S133)
  | 0, _, _, _, _, _ => none
  | k + 1, l42, x44, x45, a1, a2 => (if x44 < (a1.f2.length : Int) then (if 0 ≤ x44 then (if x44 < (a1.f2.length : Int) then ((impl_opener_text_0.f (⟨x45⟩ : S133) (rd_T107 a1.f2 x44) a2).bind fun t55 => (if l42.length + 1 ≤ 8796093022208 then (lets (l42 ++ ([t55.1] : List ByteArray)) fun y60 => (impl_opener_texts_0.l0 k y60 (wrap64 (x44 + 1)) t55.2.f0 a1 a2)) else none)) else none) else none) else (some (l42, (⟨x45⟩ : S133))))
def impl_opener_texts_0.l1 : Nat → (List ByteArray) → Int → Bool → Int → (Bool × Nat) × S133 → Option ((List ByteArray) × S133)
  | 0, _, _, _, _, _ => none
  | k + 1, l97, x99, x100, a2, t3 => (if x99 < (t3.1.2 : Int) then (if 0 ≤ x99 then (if x99 < (t3.1.2 : Int) then ((impl_opener_text_0.f (⟨x100⟩ : S133) (⟨0, (⟨#[]⟩ : ByteArray), ([] : List S107)⟩ : S107) a2).bind fun t110 => (if l97.length + 1 ≤ 8796093022208 then (lets (l97 ++ ([t110.1] : List ByteArray)) fun y115 => (impl_opener_texts_0.l1 k y115 (wrap64 (x99 + 1)) t110.2.f0 a2 t3)) else none)) else none) else none) else (some (l97, (⟨x100⟩ : S133))))
end
def impl_opener_texts_0.f (k : Nat) (a0 : S133) (a1 : S107) (a2 : Int) : Option ((List ByteArray) × S133) := ((impl_opener_list_0.f a0 a1 (-1)).bind fun t3 => (if t3.1.1 = true then (impl_opener_texts_0.l0 k [] 0 t3.2.f0 a1 a2) else (impl_opener_texts_0.l1 k [] 0 t3.2.f0 a2 t3)))
set_option maxHeartbeats 16000000 in
theorem impl_opener_texts_0.calls {k : Nat} {a0 : S133} {a1 : S107} {a2 : Int} {A : FP} {p0 : Nat} {Ap1 : Option Addr} {np1 cp1 : Nat} {wv : World} {r1 : (List ByteArray)} {r2 : S133} {w : World} (h : impl_opener_texts_0.f k a0 a1 a2 = some (r1, r2)) (gp1 : k107.C wv Ap1 np1 a1.f2) (lp1 : np1 ≤ cp1) (hV : View A w wv) (HS : Hp A w w [.box p0 [.bool a0.f0] 133]) :
    Calls Try.prog 92 #[.pointer (some ⟨p0, 0, none⟩), .agg #[.int .i64 a1.f0, .string a1.f1, .slice Ap1 np1 cp1], .int .i64 a2] w (fun e w' => ∃ v0_ : Value, e = .returned (v0_) ∧ Hp A w w' [.box p0 [.bool r2.f0] 133, .own (Zd.slice 9 Zd.string) r1 [v0_]]) := by
 obtain rfl := C_len gp1
 have H := Aside0.mk h
 clear h
 unfold impl_opener_texts_0.f at H
 go_enter Try.func92, Try.ntmps92
 replace H := zbind H; obtain ⟨t3, ht3, H⟩ := H
 by_cases c6 : t3.1.1 = true
 · replace H := zpos c6 H
   go_wp2_with (first | ((with_reducible refine gate_dst (N := 4) rfl ?_); refine ev_box rfl HS (by first | (go_simp; done) | (go_simp; rfl)) rfl ?_; clear HS; (try clear F); intro g4 w4 HS; replace HS : Hp A w _ [.box p0 [.bool a0.f0] 133, .box g4 [.int .i64 a1.f0, .string a1.f1, .slice Ap1 a1.f2.length cp1] 107] := HS; have F := HS.boxes; simp only [boxFacts, and_true] at F) | ((with_reducible refine gate_dst (N := 12) rfl ?_); refine HS.lend [0] (by decide) [.box p0 [.bool a0.f0] 133] rfl (fun A' HL HD HA HB => ?_); refine ev_call rfl Try.func91 (by kernel_rfl) rfl #[.pointer (some ⟨p0, 0, none⟩), .agg #[.int .i64 a1.f0, .string a1.f1, .slice Ap1 a1.f2.length cp1], .int .i64 (-1)] rfl (by simp only [List.map_toArray, List.map_cons, List.map_nil]; rfl) ?_; refine (impl_opener_list_0.calls ht3.out gp1 lp1 (hV.lend HS HL) HA).mono ?_; rintro _ wt3 ⟨v4, rfl, HQ⟩; refine ⟨_, rfl, ?_⟩; replace HS : Hp A w _ [.box p0 [.bool t3.2.f0] 133, .box g4 [.int .i64 a1.f0, .string a1.f1, .slice Ap1 a1.f2.length cp1] 107, .own (Zd.slice 107 q107) (List.replicate t3.1.2 z107) [v4]] := HB _ _ HQ (Nat.le_of_ble_eq_true rfl); clear HQ HA HB HL HD; (try clear F); obtain ⟨B4, d4, rfl, m4⟩ := HS.formn t3.1.2 2 rfl (by first | rfl | simp); (try simp only [cond_true, cond_false]); (try simp only [c6, cond_true, cond_false]); replace HS : Hp A w _ [.box p0 [.bool t3.2.f0] 133, .box g4 [.int .i64 a1.f0, .string a1.f1, .slice Ap1 a1.f2.length cp1] 107, .own (Zd.slice 107 q107) (List.replicate t3.1.2 z107) [.slice B4 t3.1.2 d4]] := HS; have F := HS.boxes; simp only [boxFacts, and_true] at F))
   replace HS := HS.nil 9 Zd.string
   go_loopg [7, 14] k (fun kq v_7 v_14 w' => ∃ (l42 : List ByteArray) (v43 : Value) (x44 : Int) (x45 : Bool), v_7 = v43 ∧ v_14 = .int .i64 x44 ∧ Aside0 (impl_opener_texts_0.l0 kq l42 x44 x45 a1 a2 = some (r1, r2)) ∧ Aside0 (kq ≤ k) ∧ Hp A w w' [.box p0 [.bool x45] 133, .box g4 [.int .i64 a1.f0, .string a1.f1, .slice Ap1 a1.f2.length cp1] 107, .own (Zd.slice 107 q107) (List.replicate t3.1.2 z107) [.slice B4 t3.1.2 d4], .own (Zd.slice 9 Zd.string) l42 [v43]])
   case atStart => exact ⟨_, _, _, _, rfl, rfl, H, ⟨Nat.le_refl _⟩, HS⟩
   case round =>
    clear HS H; (try clear F)
    obtain ⟨l42, v43, x44, x45, rfl, rfl, H, HKk41, HS⟩ := hrel
    obtain ⟨B43, d43, rfl, m43⟩ := HS.form 3 rfl
    have F := HS.boxes; simp only [boxFacts, and_true] at F
    cases gk with
    | zero => exact absurd H.out (by simp [impl_opener_texts_0.l0])
    | succ k41 =>
     simp only [impl_opener_texts_0.l0] at H
     by_cases c47 : x44 < (a1.f2.length : Int)
     · replace H := zpos c47 H
       replace c47 := eq_true c47
       by_cases c48 : 0 ≤ x44
       case neg => exact zno c48 H
       replace H := zpos c48 H
       replace c48 := eq_true c48
       by_cases c49 : x44 < (a1.f2.length : Int)
       case neg => exact zno c49 H
       replace H := zpos c49 H
       replace c49 := eq_true c49
       obtain ⟨ad50, B50_2, d50_2, rfl, e50_0, e50_1, e50_2, m50_2, y50_2⟩ := at_T107 gp1 x44 (of_eq_true c48) (of_eq_true c49)
       have e50_0_50 := (hV.keepc HS e50_0)
       have e50_1_50 := (hV.keepc HS e50_1)
       have e50_2_50 := (hV.keepc HS e50_2)
       replace H := zbind H; obtain ⟨t55, ht55, H⟩ := H
       by_cases c59 : l42.length + 1 ≤ 8796093022208
       case neg => exact zno c59 H
       replace H := zpos c59 H
       replace c59 := eq_true c59
       replace H := zlets H; obtain ⟨y60, e_y60, H⟩ := H
       go_wp2_with (first | ((with_reducible refine gate_dst (N := 9) rfl ?_); refine ev_box rfl HS (by first | (go_simp; done) | (go_simp; rfl)) rfl ?_; clear HS; (try clear F); intro g9 w9 HS; replace HS : Hp A w _ [.box p0 [.bool x45] 133, .box g4 [.int .i64 a1.f0, .string a1.f1, .slice (some ad50) a1.f2.length cp1] 107, .own (Zd.slice 107 q107) (List.replicate t3.1.2 z107) [.slice B4 t3.1.2 d4], .own (Zd.slice 9 Zd.string) l42 [.slice B43 l42.length d43], .box g9 [.int .i64 0, .string (⟨#[]⟩ : ByteArray), .slice none 0 0] 107] := HS; have F := HS.boxes; simp only [boxFacts, and_true] at F) | ((with_reducible refine gate_store (p := 9) rfl ?_); refine ev_store rfl 4 0 HS (seg := [.int .i64 ((rd_T107 a1.f2 x44).f0), .string ((rd_T107 a1.f2 x44).f1), .slice B50_2 (rd_T107 a1.f2 x44).f2.length d50_2]) rfl rfl rfl rfl rfl rfl (by kernel_rfl) (by simp [wrt]) (by simp [Value.oneCell']) ?_; clear HS; (try clear F); intro w53 HS; replace HS : Hp A w _ [.box p0 [.bool x45] 133, .box g4 [.int .i64 a1.f0, .string a1.f1, .slice (some ad50) a1.f2.length cp1] 107, .own (Zd.slice 107 q107) (List.replicate t3.1.2 z107) [.slice B4 t3.1.2 d4], .own (Zd.slice 9 Zd.string) l42 [.slice B43 l42.length d43], .box g9 [.int .i64 ((rd_T107 a1.f2 x44).f0), .string ((rd_T107 a1.f2 x44).f1), .slice B50_2 (rd_T107 a1.f2 x44).f2.length d50_2] 107] := HS; have F := HS.boxes; simp only [boxFacts, and_true] at F) | ((with_reducible refine gate_dst (N := 22) rfl ?_); refine HS.lend [0] (by decide) [.box p0 [.bool x45] 133] rfl (fun A' HL HD HA HB => ?_); refine ev_call rfl Try.func145 (by kernel_rfl) rfl #[.pointer (some ⟨p0, 0, none⟩), .agg #[.int .i64 ((rd_T107 a1.f2 x44).f0), .string ((rd_T107 a1.f2 x44).f1), .slice B50_2 (rd_T107 a1.f2 x44).f2.length d50_2], .int .i64 a2] rfl (by simp only [List.map_toArray, List.map_cons, List.map_nil]; rfl) ?_; refine (impl_opener_text_0.calls ht55.out y50_2 m50_2 (hV.lend HS HL) HA).mono ?_; rintro _ wt55 ⟨rfl, HQ⟩; refine ⟨_, rfl, ?_⟩; replace HS : Hp A w _ [.box p0 [.bool t55.2.f0] 133, .box g4 [.int .i64 a1.f0, .string a1.f1, .slice (some ad50) a1.f2.length cp1] 107, .own (Zd.slice 107 q107) (List.replicate t3.1.2 z107) [.slice B4 t3.1.2 d4], .own (Zd.slice 9 Zd.string) l42 [.slice B43 l42.length d43], .box g9 [.int .i64 ((rd_T107 a1.f2 x44).f0), .string ((rd_T107 a1.f2 x44).f1), .slice B50_2 (rd_T107 a1.f2 x44).f2.length d50_2] 107] := HB _ _ HQ (Nat.le_of_ble_eq_true rfl); clear HQ HA HB HL HD; (try clear F); replace HS : Hp A w _ [.box p0 [.bool t55.2.f0] 133, .box g4 [.int .i64 a1.f0, .string a1.f1, .slice (some ad50) a1.f2.length cp1] 107, .own (Zd.slice 107 q107) (List.replicate t3.1.2 z107) [.slice B4 t3.1.2 d4], .own (Zd.slice 9 Zd.string) l42 [.slice B43 l42.length d43], .box g9 [.int .i64 ((rd_T107 a1.f2 x44).f0), .string ((rd_T107 a1.f2 x44).f1), .slice B50_2 (rd_T107 a1.f2 x44).f2.length d50_2] 107] := HS; have F := HS.boxes; simp only [boxFacts, and_true] at F) | ((with_reducible refine gate_dst (N := 23) rfl ?_); refine ev_lit rfl Zd.string [] ([t55.1] : List ByteArray) ([.string t55.1] ++ []) HS (by first | (go_simp; done) | (go_simp; rfl)) rfl rfl (Nat.le_of_ble_eq_true rfl) (MadeL.cons (js1 := []) (c := [.string t55.1]) rfl (made_flat (fun _ => rfl)) MadeL.nil (by decide)) ?_; clear HS; (try clear F); intro v57 w57 HS; obtain ⟨B57, d57, rfl, m57⟩ := HS.formn 1 5 rfl rfl; replace HS : Hp A w _ [.box p0 [.bool t55.2.f0] 133, .box g4 [.int .i64 a1.f0, .string a1.f1, .slice (some ad50) a1.f2.length cp1] 107, .own (Zd.slice 107 q107) (List.replicate t3.1.2 z107) [.slice B4 t3.1.2 d4], .own (Zd.slice 9 Zd.string) l42 [.slice B43 l42.length d43], .box g9 [.int .i64 ((rd_T107 a1.f2 x44).f0), .string ((rd_T107 a1.f2 x44).f1), .slice B50_2 (rd_T107 a1.f2 x44).f2.length d50_2] 107, .own (Zd.slice 9 Zd.string) ([t55.1] : List ByteArray) [.slice B57 1 d57]] := HS; have F := HS.boxes; simp only [boxFacts, and_true] at F) | ((with_reducible refine gate_dst (N := 24) rfl ?_); refine ev_append rfl Zd.string 3 5 HS rfl rfl (by decide) rfl rfl rfl Try.underlying65 info9 rfl (by decide) (by decide) (by have := of_eq_true c59; first | omega | (simp only [List.length_cons, List.length_nil, List.length_append, Nat.zero_add] at this ⊢; omega)) ?_; clear HS; (try clear F); intro v60 w60 HS; rw [← e_y60.out] at HS; obtain ⟨B60, d60, rfl, m60⟩ := HS.form 6 rfl; replace HS : Hp A w _ [.box p0 [.bool t55.2.f0] 133, .box g4 [.int .i64 a1.f0, .string a1.f1, .slice (some ad50) a1.f2.length cp1] 107, .own (Zd.slice 107 q107) (List.replicate t3.1.2 z107) [.slice B4 t3.1.2 d4], .emp, .box g9 [.int .i64 ((rd_T107 a1.f2 x44).f0), .string ((rd_T107 a1.f2 x44).f1), .slice B50_2 (rd_T107 a1.f2 x44).f2.length d50_2] 107, .emp, .own (Zd.slice 9 Zd.string) y60 [.slice B60 y60.length d60]] := HS; have F := HS.boxes; simp only [boxFacts, and_true] at F))
       go_roundg k41
       case measure => have := HKk41.out; omega
       case rel => exact ⟨_, _, _, _, rfl, rfl, H, ⟨by have := HKk41.out; omega⟩, HS.pick [0, 1, 2, 6] (by decide) (by rfl)⟩
     · replace H := zneg c47 H
       replace c47 := eq_false c47
       obtain ⟨rfl, rfl⟩ := zsome2 H
       go_wp2
       exact bodyPost_ret (results_single rfl (.tmp .nil)) rfl ⟨_, rfl, HS.pick [0, 3] (by decide) (by rfl)⟩
 · replace H := zneg c6 H
   replace c6 := eq_false_of_ne_true c6
   go_wp2_with (first | ((with_reducible refine gate_dst (N := 4) rfl ?_); refine ev_box rfl HS (by first | (go_simp; done) | (go_simp; rfl)) rfl ?_; clear HS; (try clear F); intro g4 w4 HS; replace HS : Hp A w _ [.box p0 [.bool a0.f0] 133, .box g4 [.int .i64 a1.f0, .string a1.f1, .slice Ap1 a1.f2.length cp1] 107] := HS; have F := HS.boxes; simp only [boxFacts, and_true] at F) | ((with_reducible refine gate_dst (N := 12) rfl ?_); refine HS.lend [0] (by decide) [.box p0 [.bool a0.f0] 133] rfl (fun A' HL HD HA HB => ?_); refine ev_call rfl Try.func91 (by kernel_rfl) rfl #[.pointer (some ⟨p0, 0, none⟩), .agg #[.int .i64 a1.f0, .string a1.f1, .slice Ap1 a1.f2.length cp1], .int .i64 (-1)] rfl (by simp only [List.map_toArray, List.map_cons, List.map_nil]; rfl) ?_; refine (impl_opener_list_0.calls ht3.out gp1 lp1 (hV.lend HS HL) HA).mono ?_; rintro _ wt3 ⟨v4, rfl, HQ⟩; refine ⟨_, rfl, ?_⟩; replace HS : Hp A w _ [.box p0 [.bool t3.2.f0] 133, .box g4 [.int .i64 a1.f0, .string a1.f1, .slice Ap1 a1.f2.length cp1] 107, .own (Zd.slice 107 q107) (List.replicate t3.1.2 z107) [v4]] := HB _ _ HQ (Nat.le_of_ble_eq_true rfl); clear HQ HA HB HL HD; (try clear F); obtain ⟨B4, d4, rfl, m4⟩ := HS.formn t3.1.2 2 rfl (by first | rfl | simp); (try simp only [cond_true, cond_false]); (try simp only [c6, cond_true, cond_false]); replace HS : Hp A w _ [.box p0 [.bool t3.2.f0] 133, .box g4 [.int .i64 a1.f0, .string a1.f1, .slice Ap1 a1.f2.length cp1] 107, .own (Zd.slice 107 q107) (List.replicate t3.1.2 z107) [.slice B4 t3.1.2 d4]] := HS; have F := HS.boxes; simp only [boxFacts, and_true] at F))
   replace HS := HS.nil 9 Zd.string
   go_loopg [7, 14] k (fun kq v_7 v_14 w' => ∃ (l97 : List ByteArray) (v98 : Value) (x99 : Int) (x100 : Bool), v_7 = v98 ∧ v_14 = .int .i64 x99 ∧ Aside0 (impl_opener_texts_0.l1 kq l97 x99 x100 a2 t3 = some (r1, r2)) ∧ Aside0 (kq ≤ k) ∧ Hp A w w' [.box p0 [.bool x100] 133, .box g4 [.int .i64 a1.f0, .string a1.f1, .slice Ap1 a1.f2.length cp1] 107, .own (Zd.slice 107 q107) (List.replicate t3.1.2 z107) [.slice B4 t3.1.2 d4], .own (Zd.slice 9 Zd.string) l97 [v98]])
   case atStart => exact ⟨_, _, _, _, rfl, rfl, H, ⟨Nat.le_refl _⟩, HS⟩
   case round =>
    clear HS H; (try clear F)
    obtain ⟨l97, v98, x99, x100, rfl, rfl, H, HKk96, HS⟩ := hrel
    obtain ⟨B98, d98, rfl, m98⟩ := HS.form 3 rfl
    have F := HS.boxes; simp only [boxFacts, and_true] at F
    cases gk with
    | zero => exact absurd H.out (by simp [impl_opener_texts_0.l1])
    | succ k96 =>
     simp only [impl_opener_texts_0.l1] at H
     by_cases c102 : x99 < (t3.1.2 : Int)
     · replace H := zpos c102 H
       replace c102 := eq_true c102
       by_cases c103 : 0 ≤ x99
       case neg => exact zno c103 H
       replace H := zpos c103 H
       replace c103 := eq_true c103
       by_cases c104 : x99 < (t3.1.2 : Int)
       case neg => exact zno c104 H
       replace H := zpos c104 H
       replace c104 := eq_true c104
       obtain ⟨ad105, B105_2, d105_2, rfl, e105_0, e105_1, e105_2, m105_2, y105_2⟩ := at_T107 (HS.rd 2 rfl) x99 (of_eq_true c103) (of_eq_true c104)
       simp only [rdrep_T107] at e105_0 e105_1 e105_2; simp only [z107, List.length_nil] at e105_0 e105_1 e105_2
       replace H := zbind H; obtain ⟨t110, ht110, H⟩ := H
       by_cases c114 : l97.length + 1 ≤ 8796093022208
       case neg => exact zno c114 H
       replace H := zpos c114 H
       replace c114 := eq_true c114
       replace H := zlets H; obtain ⟨y115, e_y115, H⟩ := H
       go_wp2_with (first | ((with_reducible refine gate_dst (N := 9) rfl ?_); refine ev_box rfl HS (by first | (go_simp; done) | (go_simp; rfl)) rfl ?_; clear HS; (try clear F); intro g9 w9 HS; replace HS : Hp A w _ [.box p0 [.bool x100] 133, .box g4 [.int .i64 a1.f0, .string a1.f1, .slice Ap1 a1.f2.length cp1] 107, .own (Zd.slice 107 q107) (List.replicate t3.1.2 z107) [.slice (some ad105) t3.1.2 d4], .own (Zd.slice 9 Zd.string) l97 [.slice B98 l97.length d98], .box g9 [.int .i64 0, .string (⟨#[]⟩ : ByteArray), .slice none 0 0] 107] := HS; have F := HS.boxes; simp only [boxFacts, and_true] at F) | ((with_reducible refine gate_store (p := 9) rfl ?_); refine ev_store rfl 4 0 HS (seg := [.int .i64 0, .string (⟨#[]⟩ : ByteArray), .slice B105_2 0 d105_2]) rfl rfl rfl rfl rfl rfl (by kernel_rfl) (by simp [wrt]) (by simp [Value.oneCell']) ?_; clear HS; (try clear F); intro w108 HS; replace HS : Hp A w _ [.box p0 [.bool x100] 133, .box g4 [.int .i64 a1.f0, .string a1.f1, .slice Ap1 a1.f2.length cp1] 107, .own (Zd.slice 107 q107) (List.replicate t3.1.2 z107) [.slice (some ad105) t3.1.2 d4], .own (Zd.slice 9 Zd.string) l97 [.slice B98 l97.length d98], .box g9 [.int .i64 0, .string (⟨#[]⟩ : ByteArray), .slice B105_2 0 d105_2] 107] := HS; have F := HS.boxes; simp only [boxFacts, and_true] at F) | ((with_reducible refine gate_dst (N := 22) rfl ?_); refine HS.lend [0] (by decide) [.box p0 [.bool x100] 133] rfl (fun A' HL HD HA HB => ?_); refine ev_call rfl Try.func145 (by kernel_rfl) rfl #[.pointer (some ⟨p0, 0, none⟩), .agg #[.int .i64 0, .string (⟨#[]⟩ : ByteArray), .slice B105_2 0 d105_2], .int .i64 a2] rfl (by simp only [List.map_toArray, List.map_cons, List.map_nil]; rfl) ?_; refine (impl_opener_text_0.calls ht110.out (C_zero _) (Nat.zero_le _) (hV.lend HS HL) HA).mono ?_; rintro _ wt110 ⟨rfl, HQ⟩; refine ⟨_, rfl, ?_⟩; replace HS : Hp A w _ [.box p0 [.bool t110.2.f0] 133, .box g4 [.int .i64 a1.f0, .string a1.f1, .slice Ap1 a1.f2.length cp1] 107, .own (Zd.slice 107 q107) (List.replicate t3.1.2 z107) [.slice (some ad105) t3.1.2 d4], .own (Zd.slice 9 Zd.string) l97 [.slice B98 l97.length d98], .box g9 [.int .i64 0, .string (⟨#[]⟩ : ByteArray), .slice B105_2 0 d105_2] 107] := HB _ _ HQ (Nat.le_of_ble_eq_true rfl); clear HQ HA HB HL HD; (try clear F); replace HS : Hp A w _ [.box p0 [.bool t110.2.f0] 133, .box g4 [.int .i64 a1.f0, .string a1.f1, .slice Ap1 a1.f2.length cp1] 107, .own (Zd.slice 107 q107) (List.replicate t3.1.2 z107) [.slice (some ad105) t3.1.2 d4], .own (Zd.slice 9 Zd.string) l97 [.slice B98 l97.length d98], .box g9 [.int .i64 0, .string (⟨#[]⟩ : ByteArray), .slice B105_2 0 d105_2] 107] := HS; have F := HS.boxes; simp only [boxFacts, and_true] at F) | ((with_reducible refine gate_dst (N := 23) rfl ?_); refine ev_lit rfl Zd.string [] ([t110.1] : List ByteArray) ([.string t110.1] ++ []) HS (by first | (go_simp; done) | (go_simp; rfl)) rfl rfl (Nat.le_of_ble_eq_true rfl) (MadeL.cons (js1 := []) (c := [.string t110.1]) rfl (made_flat (fun _ => rfl)) MadeL.nil (by decide)) ?_; clear HS; (try clear F); intro v112 w112 HS; obtain ⟨B112, d112, rfl, m112⟩ := HS.formn 1 5 rfl rfl; replace HS : Hp A w _ [.box p0 [.bool t110.2.f0] 133, .box g4 [.int .i64 a1.f0, .string a1.f1, .slice Ap1 a1.f2.length cp1] 107, .own (Zd.slice 107 q107) (List.replicate t3.1.2 z107) [.slice (some ad105) t3.1.2 d4], .own (Zd.slice 9 Zd.string) l97 [.slice B98 l97.length d98], .box g9 [.int .i64 0, .string (⟨#[]⟩ : ByteArray), .slice B105_2 0 d105_2] 107, .own (Zd.slice 9 Zd.string) ([t110.1] : List ByteArray) [.slice B112 1 d112]] := HS; have F := HS.boxes; simp only [boxFacts, and_true] at F) | ((with_reducible refine gate_dst (N := 24) rfl ?_); refine ev_append rfl Zd.string 3 5 HS rfl rfl (by decide) rfl rfl rfl Try.underlying65 info9 rfl (by decide) (by decide) (by have := of_eq_true c114; first | omega | (simp only [List.length_cons, List.length_nil, List.length_append, Nat.zero_add] at this ⊢; omega)) ?_; clear HS; (try clear F); intro v115 w115 HS; rw [← e_y115.out] at HS; obtain ⟨B115, d115, rfl, m115⟩ := HS.form 6 rfl; replace HS : Hp A w _ [.box p0 [.bool t110.2.f0] 133, .box g4 [.int .i64 a1.f0, .string a1.f1, .slice Ap1 a1.f2.length cp1] 107, .own (Zd.slice 107 q107) (List.replicate t3.1.2 z107) [.slice (some ad105) t3.1.2 d4], .emp, .box g9 [.int .i64 0, .string (⟨#[]⟩ : ByteArray), .slice B105_2 0 d105_2] 107, .emp, .own (Zd.slice 9 Zd.string) y115 [.slice B115 y115.length d115]] := HS; have F := HS.boxes; simp only [boxFacts, and_true] at F))
       go_roundg k96
       case measure => have := HKk96.out; omega
       case rel => exact ⟨_, _, _, _, rfl, rfl, H, ⟨by have := HKk96.out; omega⟩, HS.pick [0, 1, 2, 6] (by decide) (by rfl)⟩
     · replace H := zneg c102 H
       replace c102 := eq_false c102
       obtain ⟨rfl, rfl⟩ := zsome2 H
       go_wp2
       exact bodyPost_ret (results_single rfl (.tmp .nil)) rfl ⟨_, rfl, HS.pick [0, 3] (by decide) (by rfl)⟩
/-! ### impl_IntItem: function 127 -/
mutual
def impl_IntItem.l0 : Nat → (List Int) → Int → Option (S107)
  | 0, _, _ => none
  | k + 1, l19, x21 => (if 0 < x21 then (if 1 + l19.length ≤ 140737488355328 then (lets (([(x21 % 256)] : List Int) ++ l19) fun y27 => (impl_IntItem.l0 k y27 (x21 / 256))) else none) else (if 0 < (l19.length : Int) then (if 128 ≤ (rd l19 0) then (if 1 + l19.length ≤ 140737488355328 then (lets (([0] : List Int) ++ l19) fun y35 => (some (⟨2, (strOfNums y35), ([] : List S107)⟩ : S107))) else none) else (some (⟨2, (strOfNums l19), ([] : List S107)⟩ : S107))) else none))
def impl_IntItem.l1 : Nat → (List Int) → Int → Option (S107)
  | 0, _, _ => none
  | k + 1, l54, x56 => (if 0 < x56 then (if 1 + l54.length ≤ 140737488355328 then (lets (([(x56 % 256)] : List Int) ++ l54) fun y62 => (impl_IntItem.l1 k y62 (x56 / 256))) else none) else (if 0 < (l54.length : Int) then (if 128 ≤ (rd l54 0) then (if 1 + l54.length ≤ 140737488355328 then (lets (([0] : List Int) ++ l54) fun y70 => (some (⟨2, (strOfNums y70), ([] : List S107)⟩ : S107))) else none) else (some (⟨2, (strOfNums l54), ([] : List S107)⟩ : S107))) else none))
end
def impl_IntItem.f (k : Nat) (a0 : Int) : Option (S107) := ((impl_within.f a0 0 1000000000).bind fun t3 => (if t3 = true then (impl_IntItem.l0 k ([(a0 % 256)] : List Int) (a0 / 256)) else (impl_IntItem.l1 k ([0] : List Int) (0 / 256))))
set_option maxHeartbeats 16000000 in
theorem impl_IntItem.calls {k : Nat} {a0 : Int} {r : S107} {w : World} (h : impl_IntItem.f k a0 = some r) :
    Calls Try.prog 127 #[.int .i64 a0] w (fun e w' => ∃ v0_ : Value, e = .returned (.agg #[.int .i64 r.f0, .string r.f1, v0_]) ∧ Hp noFP w w' [.own (Zd.slice 107 q107) r.f2 [v0_]]) := by
 have HS := Hp.start w
 have H := Aside0.mk h
 clear h
 unfold impl_IntItem.f at H
 go_enter Try.func127, Try.ntmps127
 replace H := zbind H; obtain ⟨t3, ht3, H⟩ := H
 go_upto_if 6 with (first | ((with_reducible refine gate_dst (N := 2) rfl ?_); refine ev_box rfl HS (by first | (go_simp; done) | (go_simp; rfl)) rfl ?_; clear HS; (try clear F); intro g2 w2 HS; replace HS : Hp noFP w _ [.box g2 [.int .i64 0, .string (⟨#[]⟩ : ByteArray), .slice none 0 0] 107] := HS; have F := HS.boxes; simp only [boxFacts, and_true] at F) | ((with_reducible refine gate_dst (N := 5) rfl ?_); refine ev_call rfl Try.func132 (by kernel_rfl) rfl #[.int .i64 a0, .int .i64 0, .int .i64 1000000000] rfl (by simp only [List.map_toArray, List.map_cons, List.map_nil]; rfl) ?_; refine (impl_within.calls ht3.out).mono ?_; rintro _ wt3 ⟨rfl, HQ⟩; refine ⟨_, rfl, ?_⟩; replace HS := HS.call HQ; clear HQ; (try clear F); replace HS : Hp noFP w _ [.box g2 [.int .i64 0, .string (⟨#[]⟩ : ByteArray), .slice none 0 0] 107] := HS; have F := HS.boxes; simp only [boxFacts, and_true] at F))
 by_cases c5 : t3 = true
 · replace H := zpos c5 H
   subst c5
   (try simp only [decide_true, decide_false, Bool.not_true, Bool.not_false, if_true, Bool.false_eq_true, if_false])
   go_wp2_with (first | ((with_reducible refine gate_dst (N := 9) rfl ?_); refine ev_lit rfl (Zd.int .u8) [] ([(a0 % 256)] : List Int) ([.int .u8 (a0 % 256)] ++ []) HS (by first | (go_simp; done) | (go_simp; rfl)) rfl rfl (Nat.le_of_ble_eq_true rfl) (MadeL.cons (js1 := []) (c := [.int .u8 (a0 % 256)]) rfl (made_flat (fun _ => rfl)) MadeL.nil (by decide)) ?_; clear HS; (try clear F); intro v6 w6 HS; obtain ⟨B6, d6, rfl, m6⟩ := HS.formn 1 1 rfl rfl; replace HS : Hp noFP w _ [.box g2 [.int .i64 0, .string (⟨#[]⟩ : ByteArray), .slice none 0 0] 107, .own (Zd.slice 5 (Zd.int .u8)) ([(a0 % 256)] : List Int) [.slice B6 1 d6]] := HS; have F := HS.boxes; simp only [boxFacts, and_true] at F))
   go_loopg [0, 3] k (fun kq v_0 v_3 w' => ∃ (l19 : List Int) (v20 : Value) (x21 : Int), v_0 = .int .i64 x21 ∧ v_3 = v20 ∧ Aside0 (impl_IntItem.l0 kq l19 x21 = some r) ∧ Aside0 (kq ≤ k) ∧ Hp noFP w w' [.box g2 [.int .i64 0, .string (⟨#[]⟩ : ByteArray), .slice none 0 0] 107, .own (Zd.slice 5 (Zd.int .u8)) l19 [v20]])
   case atStart => exact ⟨_, _, _, rfl, rfl, H, ⟨Nat.le_refl _⟩, HS⟩
   case round =>
    clear HS H; (try clear F)
    obtain ⟨l19, v20, x21, rfl, rfl, H, HKk18, HS⟩ := hrel
    obtain ⟨B20, d20, rfl, m20⟩ := HS.form 1 rfl
    have F := HS.boxes; simp only [boxFacts, and_true] at F
    cases gk with
    | zero => exact absurd H.out (by simp [impl_IntItem.l0])
    | succ k18 =>
     simp only [impl_IntItem.l0] at H
     by_cases c23 : 0 < x21
     · replace H := zpos c23 H
       replace c23 := eq_true c23
       by_cases c26 : 1 + l19.length ≤ 140737488355328
       case neg => exact zno c26 H
       replace H := zpos c26 H
       replace c26 := eq_true c26
       replace H := zlets H; obtain ⟨y27, e_y27, H⟩ := H
       go_wp2_with (first | ((with_reducible refine gate_dst (N := 18) rfl ?_); refine ev_lit rfl (Zd.int .u8) [] ([(x21 % 256)] : List Int) ([.int .u8 (x21 % 256)] ++ []) HS (by first | (go_simp; done) | (go_simp; rfl)) rfl rfl (Nat.le_of_ble_eq_true rfl) (MadeL.cons (js1 := []) (c := [.int .u8 (x21 % 256)]) rfl (made_flat (fun _ => rfl)) MadeL.nil (by decide)) ?_; clear HS; (try clear F); intro v24 w24 HS; obtain ⟨B24, d24, rfl, m24⟩ := HS.formn 1 2 rfl rfl; replace HS : Hp noFP w _ [.box g2 [.int .i64 0, .string (⟨#[]⟩ : ByteArray), .slice none 0 0] 107, .own (Zd.slice 5 (Zd.int .u8)) l19 [.slice B20 l19.length d20], .own (Zd.slice 5 (Zd.int .u8)) ([(x21 % 256)] : List Int) [.slice B24 1 d24]] := HS; have F := HS.boxes; simp only [boxFacts, and_true] at F) | ((with_reducible refine gate_dst (N := 20) rfl ?_); refine ev_appendr rfl (Zd.int .u8) (flat_int _) 2 HS rfl (HS.rd 1 rfl) rfl rfl rfl Try.underlying162 info5 rfl (by decide) (by decide) (by have := of_eq_true c26; first | omega | (simp only [List.length_cons, List.length_nil, List.length_append, Nat.zero_add] at this ⊢; omega)) ?_; clear HS; (try clear F); intro v27 w27 HS; rw [← e_y27.out] at HS; obtain ⟨B27, d27, rfl, m27⟩ := HS.form 3 rfl; replace HS : Hp noFP w _ [.box g2 [.int .i64 0, .string (⟨#[]⟩ : ByteArray), .slice none 0 0] 107, .own (Zd.slice 5 (Zd.int .u8)) l19 [.slice B20 l19.length d20], .emp, .own (Zd.slice 5 (Zd.int .u8)) y27 [.slice B27 y27.length d27]] := HS; have F := HS.boxes; simp only [boxFacts, and_true] at F))
       go_roundg k18
       case measure => have := HKk18.out; omega
       case rel => exact ⟨_, _, _, rfl, rfl, H, ⟨by have := HKk18.out; omega⟩, HS.pick [0, 3] (by decide) (by rfl)⟩
     · replace H := zneg c23 H
       replace c23 := eq_false c23
       by_cases c29 : 0 < (l19.length : Int)
       case neg => exact zno c29 H
       replace H := zpos c29 H
       replace c29 := eq_true c29
       have c29n : (0 < l19.length) = True := eq_true (by have := of_eq_true c29; omega)
       obtain ⟨ad30, rfl, e30_0⟩ := Kd.at_int (HS.rd 1 rfl) 0 (of_eq_true (eq_true (by decide))) (of_eq_true c29)
       (try (have e30_0' := e30_0; simp only [Int.toNat_zero, Int.reduceToNat, Int.toNat_natCast, Nat.zero_mul, Nat.one_mul, Nat.zero_add, Nat.add_zero, Addr.add_zero', Addr.add_succ', Nat.reduceMul, Nat.reduceAdd] at e30_0'))
       by_cases c31 : 128 ≤ (rd l19 0)
       · replace H := zpos c31 H
         replace c31 := eq_true c31
         by_cases c34 : 1 + l19.length ≤ 140737488355328
         case neg => exact zno c34 H
         replace H := zpos c34 H
         replace c34 := eq_true c34
         replace H := zlets H; obtain ⟨y35, e_y35, H⟩ := H
         obtain rfl := zsome H
         go_wp2_with (first | ((with_reducible refine gate_dst (N := 25) rfl ?_); refine ev_lit rfl (Zd.int .u8) [] ([0] : List Int) ([.int .u8 0] ++ []) HS (by first | (go_simp; done) | (go_simp; rfl)) rfl rfl (Nat.le_of_ble_eq_true rfl) (MadeL.cons (js1 := []) (c := [.int .u8 0]) rfl (made_flat (fun _ => rfl)) MadeL.nil (by decide)) ?_; clear HS; (try clear F); intro v32 w32 HS; obtain ⟨B32, d32, rfl, m32⟩ := HS.formn 1 2 rfl rfl; replace HS : Hp noFP w _ [.box g2 [.int .i64 0, .string (⟨#[]⟩ : ByteArray), .slice none 0 0] 107, .own (Zd.slice 5 (Zd.int .u8)) l19 [.slice (some ad30) l19.length d20], .own (Zd.slice 5 (Zd.int .u8)) ([0] : List Int) [.slice B32 1 d32]] := HS; have F := HS.boxes; simp only [boxFacts, and_true] at F) | ((with_reducible refine gate_dst (N := 27) rfl ?_); refine ev_appendr rfl (Zd.int .u8) (flat_int _) 2 HS rfl (HS.rd 1 rfl) rfl rfl rfl Try.underlying162 info5 rfl (by decide) (by decide) (by have := of_eq_true c34; first | omega | (simp only [List.length_cons, List.length_nil, List.length_append, Nat.zero_add] at this ⊢; omega)) ?_; clear HS; (try clear F); intro v35 w35 HS; rw [← e_y35.out] at HS; obtain ⟨B35, d35, rfl, m35⟩ := HS.form 3 rfl; replace HS : Hp noFP w _ [.box g2 [.int .i64 0, .string (⟨#[]⟩ : ByteArray), .slice none 0 0] 107, .own (Zd.slice 5 (Zd.int .u8)) l19 [.slice (some ad30) l19.length d20], .emp, .own (Zd.slice 5 (Zd.int .u8)) y35 [.slice B35 y35.length d35]] := HS; have F := HS.boxes; simp only [boxFacts, and_true] at F) | ((with_reducible refine gate_dst (N := 29) rfl ?_); refine ev_val rfl (run_str rfl rfl Try.underlying162 Try.underlying5 Try.underlying9 (HS.rd 3 rfl)) ?_) | ((with_reducible refine gate_store (p := 2) rfl ?_); refine ev_store rfl 0 0 HS (seg := [.int .i64 2, .string (strOfNums y35), .slice none 0 0]) rfl rfl rfl rfl rfl rfl (by kernel_rfl) (by simp [wrt]) (by simp [Value.oneCell']) ?_; clear HS; (try clear F); intro w37 HS; replace HS : Hp noFP w _ [.box g2 [.int .i64 2, .string (strOfNums y35), .slice none 0 0] 107, .own (Zd.slice 5 (Zd.int .u8)) l19 [.slice (some ad30) l19.length d20], .emp, .own (Zd.slice 5 (Zd.int .u8)) y35 [.slice B35 y35.length d35]] := HS; have F := HS.boxes; simp only [boxFacts, and_true] at F))
         replace HS := HS.nil 107 q107
         exact bodyPost_ret (results_single rfl (.cell _ _ _ _ _ rfl (HS.boxAt (i := 0) rfl) Try.underlying107 rfl (by kernel_rfl) .nil)) rfl ⟨_, rfl, HS.pick [4] (by decide) (by rfl)⟩
       · replace H := zneg c31 H
         replace c31 := eq_false c31
         obtain rfl := zsome H
         go_wp2_with (first | ((with_reducible refine gate_dst (N := 29) rfl ?_); refine ev_val rfl (run_str rfl rfl Try.underlying162 Try.underlying5 Try.underlying9 (HS.rd 1 rfl)) ?_) | ((with_reducible refine gate_store (p := 2) rfl ?_); refine ev_store rfl 0 0 HS (seg := [.int .i64 2, .string (strOfNums l19), .slice none 0 0]) rfl rfl rfl rfl rfl rfl (by kernel_rfl) (by simp [wrt]) (by simp [Value.oneCell']) ?_; clear HS; (try clear F); intro w39 HS; replace HS : Hp noFP w _ [.box g2 [.int .i64 2, .string (strOfNums l19), .slice none 0 0] 107, .own (Zd.slice 5 (Zd.int .u8)) l19 [.slice (some ad30) l19.length d20]] := HS; have F := HS.boxes; simp only [boxFacts, and_true] at F))
         replace HS := HS.nil 107 q107
         exact bodyPost_ret (results_single rfl (.cell _ _ _ _ _ rfl (HS.boxAt (i := 0) rfl) Try.underlying107 rfl (by kernel_rfl) .nil)) rfl ⟨_, rfl, HS.pick [2] (by decide) (by rfl)⟩
 · replace H := zneg c5 H
   replace c5 := eq_false_of_ne_true c5
   subst c5
   (try simp only [decide_true, decide_false, Bool.not_true, Bool.not_false, if_true, Bool.false_eq_true, if_false])
   go_wp2_with (first | ((with_reducible refine gate_dst (N := 9) rfl ?_); refine ev_lit rfl (Zd.int .u8) [] ([0] : List Int) ([.int .u8 0] ++ []) HS (by first | (go_simp; done) | (go_simp; rfl)) rfl rfl (Nat.le_of_ble_eq_true rfl) (MadeL.cons (js1 := []) (c := [.int .u8 0]) rfl (made_flat (fun _ => rfl)) MadeL.nil (by decide)) ?_; clear HS; (try clear F); intro v41 w41 HS; obtain ⟨B41, d41, rfl, m41⟩ := HS.formn 1 1 rfl rfl; replace HS : Hp noFP w _ [.box g2 [.int .i64 0, .string (⟨#[]⟩ : ByteArray), .slice none 0 0] 107, .own (Zd.slice 5 (Zd.int .u8)) ([0] : List Int) [.slice B41 1 d41]] := HS; have F := HS.boxes; simp only [boxFacts, and_true] at F))
   go_loopg [0, 3] k (fun kq v_0 v_3 w' => ∃ (l54 : List Int) (v55 : Value) (x56 : Int), v_0 = .int .i64 x56 ∧ v_3 = v55 ∧ Aside0 (impl_IntItem.l1 kq l54 x56 = some r) ∧ Aside0 (kq ≤ k) ∧ Hp noFP w w' [.box g2 [.int .i64 0, .string (⟨#[]⟩ : ByteArray), .slice none 0 0] 107, .own (Zd.slice 5 (Zd.int .u8)) l54 [v55]])
   case atStart => exact ⟨_, _, _, rfl, rfl, H, ⟨Nat.le_refl _⟩, HS⟩
   case round =>
    clear HS H; (try clear F)
    obtain ⟨l54, v55, x56, rfl, rfl, H, HKk53, HS⟩ := hrel
    obtain ⟨B55, d55, rfl, m55⟩ := HS.form 1 rfl
    have F := HS.boxes; simp only [boxFacts, and_true] at F
    cases gk with
    | zero => exact absurd H.out (by simp [impl_IntItem.l1])
    | succ k53 =>
     simp only [impl_IntItem.l1] at H
     by_cases c58 : 0 < x56
     · replace H := zpos c58 H
       replace c58 := eq_true c58
       by_cases c61 : 1 + l54.length ≤ 140737488355328
       case neg => exact zno c61 H
       replace H := zpos c61 H
       replace c61 := eq_true c61
       replace H := zlets H; obtain ⟨y62, e_y62, H⟩ := H
       go_wp2_with (first | ((with_reducible refine gate_dst (N := 18) rfl ?_); refine ev_lit rfl (Zd.int .u8) [] ([(x56 % 256)] : List Int) ([.int .u8 (x56 % 256)] ++ []) HS (by first | (go_simp; done) | (go_simp; rfl)) rfl rfl (Nat.le_of_ble_eq_true rfl) (MadeL.cons (js1 := []) (c := [.int .u8 (x56 % 256)]) rfl (made_flat (fun _ => rfl)) MadeL.nil (by decide)) ?_; clear HS; (try clear F); intro v59 w59 HS; obtain ⟨B59, d59, rfl, m59⟩ := HS.formn 1 2 rfl rfl; replace HS : Hp noFP w _ [.box g2 [.int .i64 0, .string (⟨#[]⟩ : ByteArray), .slice none 0 0] 107, .own (Zd.slice 5 (Zd.int .u8)) l54 [.slice B55 l54.length d55], .own (Zd.slice 5 (Zd.int .u8)) ([(x56 % 256)] : List Int) [.slice B59 1 d59]] := HS; have F := HS.boxes; simp only [boxFacts, and_true] at F) | ((with_reducible refine gate_dst (N := 20) rfl ?_); refine ev_appendr rfl (Zd.int .u8) (flat_int _) 2 HS rfl (HS.rd 1 rfl) rfl rfl rfl Try.underlying162 info5 rfl (by decide) (by decide) (by have := of_eq_true c61; first | omega | (simp only [List.length_cons, List.length_nil, List.length_append, Nat.zero_add] at this ⊢; omega)) ?_; clear HS; (try clear F); intro v62 w62 HS; rw [← e_y62.out] at HS; obtain ⟨B62, d62, rfl, m62⟩ := HS.form 3 rfl; replace HS : Hp noFP w _ [.box g2 [.int .i64 0, .string (⟨#[]⟩ : ByteArray), .slice none 0 0] 107, .own (Zd.slice 5 (Zd.int .u8)) l54 [.slice B55 l54.length d55], .emp, .own (Zd.slice 5 (Zd.int .u8)) y62 [.slice B62 y62.length d62]] := HS; have F := HS.boxes; simp only [boxFacts, and_true] at F))
       go_roundg k53
       case measure => have := HKk53.out; omega
       case rel => exact ⟨_, _, _, rfl, rfl, H, ⟨by have := HKk53.out; omega⟩, HS.pick [0, 3] (by decide) (by rfl)⟩
     · replace H := zneg c58 H
       replace c58 := eq_false c58
       by_cases c64 : 0 < (l54.length : Int)
       case neg => exact zno c64 H
       replace H := zpos c64 H
       replace c64 := eq_true c64
       have c64n : (0 < l54.length) = True := eq_true (by have := of_eq_true c64; omega)
       obtain ⟨ad65, rfl, e65_0⟩ := Kd.at_int (HS.rd 1 rfl) 0 (of_eq_true (eq_true (by decide))) (of_eq_true c64)
       (try (have e65_0' := e65_0; simp only [Int.toNat_zero, Int.reduceToNat, Int.toNat_natCast, Nat.zero_mul, Nat.one_mul, Nat.zero_add, Nat.add_zero, Addr.add_zero', Addr.add_succ', Nat.reduceMul, Nat.reduceAdd] at e65_0'))
       by_cases c66 : 128 ≤ (rd l54 0)
       · replace H := zpos c66 H
         replace c66 := eq_true c66
         by_cases c69 : 1 + l54.length ≤ 140737488355328
         case neg => exact zno c69 H
         replace H := zpos c69 H
         replace c69 := eq_true c69
         replace H := zlets H; obtain ⟨y70, e_y70, H⟩ := H
         obtain rfl := zsome H
         go_wp2_with (first | ((with_reducible refine gate_dst (N := 25) rfl ?_); refine ev_lit rfl (Zd.int .u8) [] ([0] : List Int) ([.int .u8 0] ++ []) HS (by first | (go_simp; done) | (go_simp; rfl)) rfl rfl (Nat.le_of_ble_eq_true rfl) (MadeL.cons (js1 := []) (c := [.int .u8 0]) rfl (made_flat (fun _ => rfl)) MadeL.nil (by decide)) ?_; clear HS; (try clear F); intro v67 w67 HS; obtain ⟨B67, d67, rfl, m67⟩ := HS.formn 1 2 rfl rfl; replace HS : Hp noFP w _ [.box g2 [.int .i64 0, .string (⟨#[]⟩ : ByteArray), .slice none 0 0] 107, .own (Zd.slice 5 (Zd.int .u8)) l54 [.slice (some ad65) l54.length d55], .own (Zd.slice 5 (Zd.int .u8)) ([0] : List Int) [.slice B67 1 d67]] := HS; have F := HS.boxes; simp only [boxFacts, and_true] at F) | ((with_reducible refine gate_dst (N := 27) rfl ?_); refine ev_appendr rfl (Zd.int .u8) (flat_int _) 2 HS rfl (HS.rd 1 rfl) rfl rfl rfl Try.underlying162 info5 rfl (by decide) (by decide) (by have := of_eq_true c69; first | omega | (simp only [List.length_cons, List.length_nil, List.length_append, Nat.zero_add] at this ⊢; omega)) ?_; clear HS; (try clear F); intro v70 w70 HS; rw [← e_y70.out] at HS; obtain ⟨B70, d70, rfl, m70⟩ := HS.form 3 rfl; replace HS : Hp noFP w _ [.box g2 [.int .i64 0, .string (⟨#[]⟩ : ByteArray), .slice none 0 0] 107, .own (Zd.slice 5 (Zd.int .u8)) l54 [.slice (some ad65) l54.length d55], .emp, .own (Zd.slice 5 (Zd.int .u8)) y70 [.slice B70 y70.length d70]] := HS; have F := HS.boxes; simp only [boxFacts, and_true] at F) | ((with_reducible refine gate_dst (N := 29) rfl ?_); refine ev_val rfl (run_str rfl rfl Try.underlying162 Try.underlying5 Try.underlying9 (HS.rd 3 rfl)) ?_) | ((with_reducible refine gate_store (p := 2) rfl ?_); refine ev_store rfl 0 0 HS (seg := [.int .i64 2, .string (strOfNums y70), .slice none 0 0]) rfl rfl rfl rfl rfl rfl (by kernel_rfl) (by simp [wrt]) (by simp [Value.oneCell']) ?_; clear HS; (try clear F); intro w72 HS; replace HS : Hp noFP w _ [.box g2 [.int .i64 2, .string (strOfNums y70), .slice none 0 0] 107, .own (Zd.slice 5 (Zd.int .u8)) l54 [.slice (some ad65) l54.length d55], .emp, .own (Zd.slice 5 (Zd.int .u8)) y70 [.slice B70 y70.length d70]] := HS; have F := HS.boxes; simp only [boxFacts, and_true] at F))
         replace HS := HS.nil 107 q107
         exact bodyPost_ret (results_single rfl (.cell _ _ _ _ _ rfl (HS.boxAt (i := 0) rfl) Try.underlying107 rfl (by kernel_rfl) .nil)) rfl ⟨_, rfl, HS.pick [4] (by decide) (by rfl)⟩
       · replace H := zneg c66 H
         replace c66 := eq_false c66
         obtain rfl := zsome H
         go_wp2_with (first | ((with_reducible refine gate_dst (N := 29) rfl ?_); refine ev_val rfl (run_str rfl rfl Try.underlying162 Try.underlying5 Try.underlying9 (HS.rd 1 rfl)) ?_) | ((with_reducible refine gate_store (p := 2) rfl ?_); refine ev_store rfl 0 0 HS (seg := [.int .i64 2, .string (strOfNums l54), .slice none 0 0]) rfl rfl rfl rfl rfl rfl (by kernel_rfl) (by simp [wrt]) (by simp [Value.oneCell']) ?_; clear HS; (try clear F); intro w74 HS; replace HS : Hp noFP w _ [.box g2 [.int .i64 2, .string (strOfNums l54), .slice none 0 0] 107, .own (Zd.slice 5 (Zd.int .u8)) l54 [.slice (some ad65) l54.length d55]] := HS; have F := HS.boxes; simp only [boxFacts, and_true] at F))
         replace HS := HS.nil 107 q107
         exact bodyPost_ret (results_single rfl (.cell _ _ _ _ _ rfl (HS.boxAt (i := 0) rfl) Try.underlying107 rfl (by kernel_rfl) .nil)) rfl ⟨_, rfl, HS.pick [2] (by decide) (by rfl)⟩
/-! ### impl_SameItem: function 171 -/
mutual
def impl_SameItem.f : Nat → S107 → S107 → Option (Bool)
  | 0, _, _ => none
  | k + 1, a0, a1 => (if a0.f0 = a1.f0 then (if a0.f1.toList = a1.f1.toList then ((impl_SameItem_impl_Item.f k a0.f2 a1.f2).bind fun t7 => (some t7)) else (some false)) else (some false))
def impl_SameItem_impl_Item.l0 : Nat → Int → (List S107) → (List S107) → Option (Bool)
  | 0, _, _, _ => none
  | k + 1, x5, a0, a1 => (if x5 < (a0.length : Int) then (if 0 ≤ x5 then (if x5 < (a0.length : Int) then (if x5 < (a1.length : Int) then ((impl_SameItem.f k (rd_T107 a0 x5) (rd_T107 a1 x5)).bind fun t21 => (if t21 = true then (impl_SameItem_impl_Item.l0 k (wrap64 (x5 + 1)) a0 a1) else (some false))) else none) else none) else none) else (some true))
def impl_SameItem_impl_Item.f : Nat → (List S107) → (List S107) → Option (Bool)
  | 0, _, _ => none
  | k + 1, a0, a1 => (if (a0.length : Int) = (a1.length : Int) then (impl_SameItem_impl_Item.l0 k 0 a0 a1) else (some false))
end
set_option maxHeartbeats 16000000 in
theorem impl_SameItem_impl_Item.calls_ {K : Nat} (IH : ∀ {k : Nat} (hK : k ≤ K) {a0 : S107} {a1 : S107} {Ap0 : Option Addr} {np0 cp0 : Nat} {Ap1 : Option Addr} {np1 cp1 : Nat} {r : Bool} {w : World} (h : impl_SameItem.f k a0 a1 = some r) (gp0 : k107.C w Ap0 np0 a0.f2) (lp0 : np0 ≤ cp0) (gp1 : k107.C w Ap1 np1 a1.f2) (lp1 : np1 ≤ cp1), Calls Try.prog 171 #[.agg #[.int .i64 a0.f0, .string a0.f1, .slice Ap0 np0 cp0], .agg #[.int .i64 a1.f0, .string a1.f1, .slice Ap1 np1 cp1]] w (fun e w' => e = .returned (.bool r) ∧ Hp noFP w w' [])) : ∀ {k : Nat} (hK : k ≤ K) {a0 : (List S107)} {a1 : (List S107)} {Ap0 : Option Addr} {np0 cp0 : Nat} {Ap1 : Option Addr} {np1 cp1 : Nat} {r : Bool} {w : World} (h : impl_SameItem_impl_Item.f k a0 a1 = some r) (gp0 : k107.C w Ap0 np0 a0) (lp0 : np0 ≤ cp0) (gp1 : k107.C w Ap1 np1 a1) (lp1 : np1 ≤ cp1),
    Calls Try.prog 181 #[.slice Ap0 np0 cp0, .slice Ap1 np1 cp1, .func (.func 171) #[] #[]] w (fun e w' => e = .returned (.bool r) ∧ Hp noFP w w' []) := by
  intro k hK a0 a1 Ap0 np0 cp0 Ap1 np1 cp1 r w h gp0 lp0 gp1 lp1
  cases k with
  | zero => exact absurd h (by simp [impl_SameItem_impl_Item.f])
  | succ k =>
  have HK0 : Aside0 (k ≤ K) := ⟨by omega⟩
  clear hK
  obtain rfl := C_len gp0
  obtain rfl := C_len gp1
  have HS := Hp.start w
  have H := Aside0.mk h
  clear h
  simp only [impl_SameItem_impl_Item.f] at H
  go_enter Try.func181, Try.ntmps181
  by_cases c1 : (a0.length : Int) = (a1.length : Int)
  · replace H := zpos c1 H
    have c1a := beq_iff_eq.mpr c1
    have c1b := bne_eq_false_iff_eq.mpr c1
    clear c1
    go_wp2
    go_loopg [17] k (fun kq v_17 w' => ∃ (x5 : Int), v_17 = .int .i64 x5 ∧ Aside0 (impl_SameItem_impl_Item.l0 kq x5 a0 a1 = some r) ∧ Aside0 (kq ≤ k) ∧ Hp noFP w w' [])
    case atStart => exact ⟨_, rfl, H, ⟨Nat.le_refl _⟩, HS⟩
    case round =>
     clear HS H; (try clear F)
     obtain ⟨x5, rfl, H, HKk4, HS⟩ := hrel
     cases gk with
     | zero => exact absurd H.out (by simp [impl_SameItem_impl_Item.l0])
     | succ k4 =>
      simp only [impl_SameItem_impl_Item.l0] at H
      by_cases c7 : x5 < (a0.length : Int)
      · replace H := zpos c7 H
        replace c7 := eq_true c7
        by_cases c8 : 0 ≤ x5
        case neg => exact zno c8 H
        replace H := zpos c8 H
        replace c8 := eq_true c8
        by_cases c9 : x5 < (a0.length : Int)
        case neg => exact zno c9 H
        replace H := zpos c9 H
        replace c9 := eq_true c9
        obtain ⟨ad10, B10_2, d10_2, rfl, e10_0, e10_1, e10_2, m10_2, y10_2⟩ := at_T107 gp0 x5 (of_eq_true c8) (of_eq_true c9)
        have e10_0_10 := (HS.keepc e10_0)
        have e10_1_10 := (HS.keepc e10_1)
        have e10_2_10 := (HS.keepc e10_2)
        by_cases c15 : x5 < (a1.length : Int)
        case neg => exact zno c15 H
        replace H := zpos c15 H
        replace c15 := eq_true c15
        replace H := zbind H; obtain ⟨t21, ht21, H⟩ := H
        go_upto_if 30 with (first | ((with_reducible refine gate_dst (N := 8) rfl ?_); refine ev_box rfl HS (by first | (go_simp; done) | (go_simp; rfl)) rfl ?_; clear HS; (try clear F); intro g8 w8 HS; replace HS : Hp noFP w _ [.box g8 [.int .i64 0, .string (⟨#[]⟩ : ByteArray), .slice none 0 0] 107] := HS; have F := HS.boxes; simp only [boxFacts, and_true] at F) | ((with_reducible refine gate_store (p := 8) rfl ?_); refine ev_store rfl 0 0 HS (seg := [.int .i64 ((rd_T107 a0 x5).f0), .string ((rd_T107 a0 x5).f1), .slice B10_2 (rd_T107 a0 x5).f2.length d10_2]) rfl rfl rfl rfl rfl rfl (by kernel_rfl) (by simp [wrt]) (by simp [Value.oneCell']) ?_; clear HS; (try clear F); intro w13 HS; replace HS : Hp noFP w _ [.box g8 [.int .i64 ((rd_T107 a0 x5).f0), .string ((rd_T107 a0 x5).f1), .slice B10_2 (rd_T107 a0 x5).f2.length d10_2] 107] := HS; have F := HS.boxes; simp only [boxFacts, and_true] at F; obtain ⟨ad16, B16_2, d16_2, rfl, e16_0, e16_1, e16_2, m16_2, y16_2⟩ := at_T107 gp1 x5 (of_eq_true c8) (of_eq_true c15); have e16_0_16 := (HS.keepc e16_0); have e16_1_16 := (HS.keepc e16_1); have e16_2_16 := (HS.keepc e16_2)) | ((with_reducible refine gate_dst (N := 9) rfl ?_); refine ev_box rfl HS (by first | (go_simp; done) | (go_simp; rfl)) rfl ?_; clear HS; (try clear F); intro g9 w9 HS; replace HS : Hp noFP w _ [.box g8 [.int .i64 ((rd_T107 a0 x5).f0), .string ((rd_T107 a0 x5).f1), .slice B10_2 (rd_T107 a0 x5).f2.length d10_2] 107, .box g9 [.int .i64 0, .string (⟨#[]⟩ : ByteArray), .slice none 0 0] 107] := HS; have F := HS.boxes; simp only [boxFacts, and_true] at F) | ((with_reducible refine gate_store (p := 9) rfl ?_); refine ev_store rfl 1 0 HS (seg := [.int .i64 ((rd_T107 a1 x5).f0), .string ((rd_T107 a1 x5).f1), .slice B16_2 (rd_T107 a1 x5).f2.length d16_2]) rfl rfl rfl rfl rfl rfl (by kernel_rfl) (by simp [wrt]) (by simp [Value.oneCell']) ?_; clear HS; (try clear F); intro w19 HS; replace HS : Hp noFP w _ [.box g8 [.int .i64 ((rd_T107 a0 x5).f0), .string ((rd_T107 a0 x5).f1), .slice B10_2 (rd_T107 a0 x5).f2.length d10_2] 107, .box g9 [.int .i64 ((rd_T107 a1 x5).f0), .string ((rd_T107 a1 x5).f1), .slice B16_2 (rd_T107 a1 x5).f2.length d16_2] 107] := HS; have F := HS.boxes; simp only [boxFacts, and_true] at F) | ((with_reducible refine gate_dst (N := 29) rfl ?_); refine ev_callv rfl Try.func171 (by kernel_rfl) rfl #[.agg #[.int .i64 ((rd_T107 a0 x5).f0), .string ((rd_T107 a0 x5).f1), .slice B10_2 (rd_T107 a0 x5).f2.length d10_2], .agg #[.int .i64 ((rd_T107 a1 x5).f0), .string ((rd_T107 a1 x5).f1), .slice B16_2 (rd_T107 a1 x5).f2.length d16_2]] #[.agg #[.int .i64 ((rd_T107 a0 x5).f0), .string ((rd_T107 a0 x5).f1), .slice B10_2 (rd_T107 a0 x5).f2.length d10_2], .agg #[.int .i64 ((rd_T107 a1 x5).f0), .string ((rd_T107 a1 x5).f1), .slice B16_2 (rd_T107 a1 x5).f2.length d16_2]] rfl rfl (by simp only [List.map_toArray, List.map_cons, List.map_nil]; rfl) (by first | rfl | simp) ?_; refine (IH (by have := HK0.out; have := HKk4.out; omega) ht21.out (HS.ro y10_2) m10_2 (HS.ro y16_2) m16_2).mono ?_; rintro _ wt21 ⟨rfl, HQ⟩; refine ⟨_, rfl, ?_⟩; replace HS := HS.call HQ; clear HQ; (try clear F); replace HS : Hp noFP w _ [.box g8 [.int .i64 ((rd_T107 a0 x5).f0), .string ((rd_T107 a0 x5).f1), .slice B10_2 (rd_T107 a0 x5).f2.length d10_2] 107, .box g9 [.int .i64 ((rd_T107 a1 x5).f0), .string ((rd_T107 a1 x5).f1), .slice B16_2 (rd_T107 a1 x5).f2.length d16_2] 107] := HS; have F := HS.boxes; simp only [boxFacts, and_true] at F))
        by_cases c23 : t21 = true
        · replace H := zpos c23 H
          subst c23
          (try simp only [decide_true, decide_false, Bool.not_true, Bool.not_false, if_true, Bool.false_eq_true, if_false])
          go_wp2
          go_roundg k4
          case measure => have := HK0.out; have := HKk4.out; omega
          case rel => exact ⟨_, rfl, H, ⟨by have := HK0.out; have := HKk4.out; omega⟩, HS.pick [] (by decide) (by rfl)⟩
        · replace H := zneg c23 H
          replace c23 := eq_false_of_ne_true c23
          subst c23
          (try simp only [decide_true, decide_false, Bool.not_true, Bool.not_false, if_true, Bool.false_eq_true, if_false])
          obtain rfl := zsome H
          go_wp2
          go_ret
          exact ⟨rfl, HS.pick [] (by decide) (by rfl)⟩
      · replace H := zneg c7 H
        replace c7 := eq_false c7
        obtain rfl := zsome H
        go_wp2
        go_ret
        exact ⟨rfl, HS.pick [] (by decide) (by rfl)⟩
  · replace H := zneg c1 H
    have c1a := beq_eq_false_iff_ne.mpr c1
    have c1b := bne_iff_ne.mpr c1
    clear c1
    obtain rfl := zsome H
    go_wp2
    go_ret
    exact ⟨rfl, HS.pick [] (by decide) (by rfl)⟩
set_option maxHeartbeats 16000000 in
theorem impl_SameItem.calls_ (K : Nat) : ∀ {k : Nat} (hK : k ≤ K) {a0 : S107} {a1 : S107} {Ap0 : Option Addr} {np0 cp0 : Nat} {Ap1 : Option Addr} {np1 cp1 : Nat} {r : Bool} {w : World} (h : impl_SameItem.f k a0 a1 = some r) (gp0 : k107.C w Ap0 np0 a0.f2) (lp0 : np0 ≤ cp0) (gp1 : k107.C w Ap1 np1 a1.f2) (lp1 : np1 ≤ cp1),
    Calls Try.prog 171 #[.agg #[.int .i64 a0.f0, .string a0.f1, .slice Ap0 np0 cp0], .agg #[.int .i64 a1.f0, .string a1.f1, .slice Ap1 np1 cp1]] w (fun e w' => e = .returned (.bool r) ∧ Hp noFP w w' []) := by
  induction K with
  | zero =>
    intro k hK a0 a1 Ap0 np0 cp0 Ap1 np1 cp1 r w h gp0 lp0 gp1 lp1
    obtain rfl : k = 0 := by omega
    exact absurd h (by simp [impl_SameItem.f])
  | succ K IH =>
    intro k hK a0 a1 Ap0 np0 cp0 Ap1 np1 cp1 r w h gp0 lp0 gp1 lp1
    cases k with
    | zero => exact absurd h (by simp [impl_SameItem.f])
    | succ k =>
    have HK0 : Aside0 (k ≤ K) := ⟨by omega⟩
    clear hK
    obtain rfl := C_len gp0
    obtain rfl := C_len gp1
    have HS := Hp.start w
    have H := Aside0.mk h
    clear h
    simp only [impl_SameItem.f] at H
    go_enter Try.func171, Try.ntmps171
    by_cases c5 : a0.f0 = a1.f0
    · replace H := zpos c5 H
      have c5a := beq_iff_eq.mpr c5
      have c5b := bne_eq_false_iff_eq.mpr c5
      clear c5
      by_cases c6 : a0.f1.toList = a1.f1.toList
      · replace H := zpos c6 H
        have c6a := beq_iff_eq.mpr c6
        have c6b := bne_eq_false_iff_eq.mpr c6
        clear c6
        replace H := zbind H; obtain ⟨t7, ht7, H⟩ := H
        obtain rfl := zsome H
        go_wp2_with (first | ((with_reducible refine gate_dst (N := 2) rfl ?_); refine ev_box rfl HS (by first | (go_simp; done) | (go_simp; rfl)) rfl ?_; clear HS; (try clear F); intro g2 w2 HS; replace HS : Hp noFP w _ [.box g2 [.int .i64 a0.f0, .string a0.f1, .slice Ap0 a0.f2.length cp0] 107] := HS; have F := HS.boxes; simp only [boxFacts, and_true] at F) | ((with_reducible refine gate_dst (N := 3) rfl ?_); refine ev_box rfl HS (by first | (go_simp; done) | (go_simp; rfl)) rfl ?_; clear HS; (try clear F); intro g3 w3 HS; replace HS : Hp noFP w _ [.box g2 [.int .i64 a0.f0, .string a0.f1, .slice Ap0 a0.f2.length cp0] 107, .box g3 [.int .i64 a1.f0, .string a1.f1, .slice Ap1 a1.f2.length cp1] 107] := HS; have F := HS.boxes; simp only [boxFacts, and_true] at F) | ((with_reducible refine gate_dst (N := 22) rfl ?_); refine gate_guard (by rfl) ?_; refine ev_call rfl Try.func181 (by kernel_rfl) rfl #[.slice Ap0 a0.f2.length cp0, .slice Ap1 a1.f2.length cp1, .func (.func 171) #[] #[]] rfl (by simp only [List.map_toArray, List.map_cons, List.map_nil]; rfl) ?_; refine (impl_SameItem_impl_Item.calls_ IH (by have := HK0.out; omega) ht7.out (HS.ro gp0) lp0 (HS.ro gp1) lp1).mono ?_; rintro _ wt7 ⟨rfl, HQ⟩; refine ⟨_, rfl, ?_⟩; replace HS := HS.call HQ; clear HQ; (try clear F); replace HS : Hp noFP w _ [.box g2 [.int .i64 a0.f0, .string a0.f1, .slice Ap0 a0.f2.length cp0] 107, .box g3 [.int .i64 a1.f0, .string a1.f1, .slice Ap1 a1.f2.length cp1] 107] := HS; have F := HS.boxes; simp only [boxFacts, and_true] at F))
        go_ret
        exact ⟨rfl, HS.pick [] (by decide) (by rfl)⟩
      · replace H := zneg c6 H
        have c6a := beq_eq_false_iff_ne.mpr c6
        have c6b := bne_iff_ne.mpr c6
        clear c6
        obtain rfl := zsome H
        go_wp2_with (first | ((with_reducible refine gate_dst (N := 2) rfl ?_); refine ev_box rfl HS (by first | (go_simp; done) | (go_simp; rfl)) rfl ?_; clear HS; (try clear F); intro g2 w2 HS; replace HS : Hp noFP w _ [.box g2 [.int .i64 a0.f0, .string a0.f1, .slice Ap0 a0.f2.length cp0] 107] := HS; have F := HS.boxes; simp only [boxFacts, and_true] at F) | ((with_reducible refine gate_dst (N := 3) rfl ?_); refine ev_box rfl HS (by first | (go_simp; done) | (go_simp; rfl)) rfl ?_; clear HS; (try clear F); intro g3 w3 HS; replace HS : Hp noFP w _ [.box g2 [.int .i64 a0.f0, .string a0.f1, .slice Ap0 a0.f2.length cp0] 107, .box g3 [.int .i64 a1.f0, .string a1.f1, .slice Ap1 a1.f2.length cp1] 107] := HS; have F := HS.boxes; simp only [boxFacts, and_true] at F))
        go_ret
        exact ⟨rfl, HS.pick [] (by decide) (by rfl)⟩
    · replace H := zneg c5 H
      have c5a := beq_eq_false_iff_ne.mpr c5
      have c5b := bne_iff_ne.mpr c5
      clear c5
      obtain rfl := zsome H
      go_wp2_with (first | ((with_reducible refine gate_dst (N := 2) rfl ?_); refine ev_box rfl HS (by first | (go_simp; done) | (go_simp; rfl)) rfl ?_; clear HS; (try clear F); intro g2 w2 HS; replace HS : Hp noFP w _ [.box g2 [.int .i64 a0.f0, .string a0.f1, .slice Ap0 a0.f2.length cp0] 107] := HS; have F := HS.boxes; simp only [boxFacts, and_true] at F) | ((with_reducible refine gate_dst (N := 3) rfl ?_); refine ev_box rfl HS (by first | (go_simp; done) | (go_simp; rfl)) rfl ?_; clear HS; (try clear F); intro g3 w3 HS; replace HS : Hp noFP w _ [.box g2 [.int .i64 a0.f0, .string a0.f1, .slice Ap0 a0.f2.length cp0] 107, .box g3 [.int .i64 a1.f0, .string a1.f1, .slice Ap1 a1.f2.length cp1] 107] := HS; have F := HS.boxes; simp only [boxFacts, and_true] at F))
      go_ret
      exact ⟨rfl, HS.pick [] (by decide) (by rfl)⟩
theorem impl_SameItem.calls {k : Nat} {a0 : S107} {a1 : S107} {Ap0 : Option Addr} {np0 cp0 : Nat} {Ap1 : Option Addr} {np1 cp1 : Nat} {r : Bool} {w : World} (h : impl_SameItem.f k a0 a1 = some r) (gp0 : k107.C w Ap0 np0 a0.f2) (lp0 : np0 ≤ cp0) (gp1 : k107.C w Ap1 np1 a1.f2) (lp1 : np1 ≤ cp1) :
    Calls Try.prog 171 #[.agg #[.int .i64 a0.f0, .string a0.f1, .slice Ap0 np0 cp0], .agg #[.int .i64 a1.f0, .string a1.f1, .slice Ap1 np1 cp1]] w (fun e w' => e = .returned (.bool r) ∧ Hp noFP w w' []) := impl_SameItem.calls_ k (Nat.le_refl k) h gp0 lp0 gp1 lp1
/-! ### impl_IntIn: function 146 -/
mutual
def impl_IntIn.l0 : Nat → Int → Int → S107 → ByteArray → Option (Int × Bool)
  | 0, _, _, _, _ => none
  | k + 1, x19, x20, a0, y6 => (if x20 < (y6.size : Int) then (if 0 ≤ x20 then (if x20 < (y6.size : Int) then (impl_IntIn.l0 k (Go.bits .or .i64 (wrap64 (x19 * 256)) (wrap64 (rd (bytesOf y6) x20))) (wrap64 (x20 + 1)) a0 y6) else none) else none) else ((impl_within.f x19 0 1000000000).bind fun t101001 => (if t101001 = true then ((impl_IntItem.f k x19).bind fun t106001 => ((impl_SameItem.f k a0 t106001).bind fun t107001 => (if t107001 = true then (some (x19, true)) else (some (0, false))))) else (some (0, false)))))
def impl_IntIn.l1 : Nat → Int → Int → S107 → ByteArray → Option (Int × Bool)
  | 0, _, _, _, _ => none
  | k + 1, x47, x48, a0, y34 => (if x48 < (y34.size : Int) then (if 0 ≤ x48 then (if x48 < (y34.size : Int) then (impl_IntIn.l1 k (Go.bits .or .i64 (wrap64 (x47 * 256)) (wrap64 (rd (bytesOf y34) x48))) (wrap64 (x48 + 1)) a0 y34) else none) else none) else ((impl_within.f x47 0 1000000000).bind fun t201001 => (if t201001 = true then ((impl_IntItem.f k x47).bind fun t206001 => ((impl_SameItem.f k a0 t206001).bind fun t207001 => (if t207001 = true then (some (x47, true)) else (some (0, false))))) else (some (0, false)))))
end
def impl_IntIn.f (k : Nat) (a0 : S107) : Option (Int × Bool) := (if 5 < (a0.f1.size : Int) then (if 0 ≤ 5 then (if 5 ≤ (a0.f1.size : Int) then (lets (a0.f1.extract 0 5) fun y6 => (if y6.size ≤ 9223372036854775807 then (impl_IntIn.l0 k 0 0 a0 y6) else none)) else none) else none) else (if 0 ≤ (a0.f1.size : Int) then (if (a0.f1.size : Int) ≤ (a0.f1.size : Int) then (lets (a0.f1.extract 0 ((a0.f1.size : Int)).toNat) fun y34 => (if y34.size ≤ 9223372036854775807 then (impl_IntIn.l1 k 0 0 a0 y34) else none)) else none) else none))
def impl_IntIn.T7 : Bool × List (List Nat × List Nat) := (true, [([], []), ([0], [0]), ([1], [1]), ([2, 1], [2]), ([3], [3]), ([3], [3]), ([5, 3, 3], [3, 5]), ([4, 6, 6, 3], [3, 4, 6]), ([7, 3], [3, 7]), ([3, 8], [3, 8])])
theorem impl_IntIn.tT7 : rtab .any (opsOf Try.f146 7) = impl_IntIn.T7 := by kernel_rfl
set_option maxHeartbeats 16000000 in
theorem impl_IntIn.calls {k : Nat} {a0 : S107} {Ap0 : Option Addr} {np0 cp0 : Nat} {r1 : Int} {r2 : Bool} {w : World} (h : impl_IntIn.f k a0 = some (r1, r2)) (gp0 : k107.C w Ap0 np0 a0.f2) (lp0 : np0 ≤ cp0) :
    Calls Try.prog 146 #[.agg #[.int .i64 a0.f0, .string a0.f1, .slice Ap0 np0 cp0]] w (fun e w' => e = .returned (.tuple #[.int .i64 r1, .bool r2]) ∧ Hp noFP w w' []) := by
 obtain rfl := C_len gp0
 have HS := Hp.start w
 have H := Aside0.mk h
 clear h
 unfold impl_IntIn.f at H
 go_enter Try.func146, Try.ntmps146
 by_cases c3 : 5 < (a0.f1.size : Int)
 · replace H := zpos c3 H
   replace c3 := eq_true c3
   by_cases c4 : 0 ≤ 5
   case neg => exact zno c4 H
   replace H := zpos c4 H
   replace c4 := eq_true c4
   by_cases c5 : 5 ≤ (a0.f1.size : Int)
   case neg => exact zno c5 H
   replace H := zpos c5 H
   replace c5 := eq_true c5
   replace H := zlets H; obtain ⟨y6, e_y6, H⟩ := H
   by_cases c7 : y6.size ≤ 9223372036854775807
   case neg => exact zno c7 H
   replace H := zpos c7 H
   replace c7 := eq_true c7
   go_wp2_with (first | ((with_reducible refine gate_dst (N := 1) rfl ?_); refine ev_box rfl HS (by first | (go_simp; done) | (go_simp; rfl)) rfl ?_; clear HS; (try clear F); intro g1 w1 HS; replace HS : Hp noFP w _ [.box g1 [.int .i64 a0.f0, .string a0.f1, .slice Ap0 a0.f2.length cp0] 107] := HS; have F := HS.boxes; simp only [boxFacts, and_true] at F) | ((with_reducible refine gate_dst (N := 13) rfl ?_); refine ev_val rfl (run_cut rfl rfl Try.underlying9 (.inl ⟨rfl, rfl⟩) (.inr ⟨_, _, rfl, rfl, by have := of_eq_true (eq_true (by decide : (0:Int) ≤ 0)); have := of_eq_true c4; have := of_eq_true c5; omega⟩) (by have := of_eq_true (eq_true (by decide : (0:Int) ≤ 0)); have := of_eq_true c4; have := of_eq_true c5; omega) (by have := of_eq_true (eq_true (by decide : (0:Int) ≤ 0)); have := of_eq_true c4; have := of_eq_true c5; omega)) ?_) | ((with_reducible refine gate_dst (N := 14) rfl ?_); refine ev_bytes rfl HS rfl (s := y6) (by rw [e_y6.out]; rfl) Try.underlying9 Try.underlying162 Try.underlying5 (of_eq_true c7) ?_; clear HS; (try clear F); intro v6 w6 HS; obtain ⟨B6, d6, rfl, m6⟩ := HS.vformb 1 rfl; replace HS : Hp noFP w _ [.box g1 [.int .i64 a0.f0, .string a0.f1, .slice Ap0 a0.f2.length cp0] 107, .own (Zd.view 5 (Zd.int .u8)) (bytesOf y6) [.slice B6 y6.size d6]] := HS; have F := HS.boxes; simp only [boxFacts, and_true] at F))
   go_loopg [4, 16] k (fun kq v_4 v_16 w' => ∃ (x19 : Int) (x20 : Int), v_4 = .int .i64 x19 ∧ v_16 = .int .i64 x20 ∧ Aside0 (impl_IntIn.l0 kq x19 x20 a0 y6 = some (r1, r2)) ∧ Aside0 (kq ≤ k) ∧ Hp noFP w w' [.box g1 [.int .i64 a0.f0, .string a0.f1, .slice Ap0 a0.f2.length cp0] 107, .own (Zd.view 5 (Zd.int .u8)) (bytesOf y6) [.slice B6 y6.size d6]])
   case atStart => exact ⟨_, _, rfl, rfl, H, ⟨Nat.le_refl _⟩, HS⟩
   case round =>
    clear HS H; (try clear F)
    obtain ⟨x19, x20, rfl, rfl, H, HKk18, HS⟩ := hrel
    have F := HS.boxes; simp only [boxFacts, and_true] at F
    cases gk with
    | zero => exact absurd H.out (by simp [impl_IntIn.l0])
    | succ k18 =>
     simp only [impl_IntIn.l0] at H
     by_cases c22 : x20 < (y6.size : Int)
     · replace H := zpos c22 H
       replace c22 := eq_true c22
       by_cases c23 : 0 ≤ x20
       case neg => exact zno c23 H
       replace H := zpos c23 H
       replace c23 := eq_true c23
       by_cases c24 : x20 < (y6.size : Int)
       case neg => exact zno c24 H
       replace H := zpos c24 H
       replace c24 := eq_true c24
       obtain ⟨ad25, rfl, e25_0⟩ := Kd.at_int (HS.vrd 1 rfl) x20 (of_eq_true c23) (of_eq_true c24)
       go_wp2
       go_roundg k18
       case measure => have := HKk18.out; omega
       case rel => exact ⟨_, _, rfl, rfl, H, ⟨by have := HKk18.out; omega⟩, HS.pick [0, 1] (by decide) (by rfl)⟩
     · replace H := zneg c22 H
       replace c22 := eq_false c22
       (try go_wp2)
       replace H := zbind H; obtain ⟨t101001, ht101001, H⟩ := H
       by_cases c103001 : t101001 = true
       · replace H := zpos c103001 H
         subst c103001
         replace H := zbind H; obtain ⟨t106001, ht106001, H⟩ := H
         replace H := zbind H; obtain ⟨t107001, ht107001, H⟩ := H
         refine dr_start [] HS #[false, false, false, false, false, false, false, false, false, false] (by kernel_rfl) rfl rfl impl_IntIn.tT7 (fun w27 HT HS HH => ?_)
         (try clear F)
         refine drq_of [(0, some 26)] ?_
         repeat (first | (refine drq_pure HT (v := ?_) (a' := ?_) rfl rfl (by kernel_rfl) (fun _ _ _ h => h) (.inl ⟨by rfl, ?_⟩) ?_ ?_; rotate_left; (intro w'; go_simp; with_reducible rfl); rotate_left; (simp only [Act.put, List.setIfInBounds_toArray, List.set_cons_zero, List.set_cons_succ, i64_w, i32_w]; rfl)))
         refine drq_end ?_
         refine dr_one 1 HT rfl (by kernel_rfl) (by decide) (fun K hK => ?_)
         refine goes_ Try.func132 (by kernel_rfl) rfl #[.int .i64 x19, .int .i64 0, .int .i64 1000000000] (by rfl) rfl rfl (by simp only [List.map_toArray, List.map_cons, List.map_nil]; rfl) ?_; refine (impl_within.calls ht101001.out).mono ?_; rintro _ wt101001 ⟨rfl, HQ⟩; refine ⟨_, rfl, ?_⟩; replace HS := HS.call HQ; clear HQ; (try clear F)
         replace HS : Hp noFP w _ [.box g1 [.int .i64 a0.f0, .string a0.f1, .slice Ap0 a0.f2.length cp0] 107, .own (Zd.view 5 (Zd.int .u8)) (bytesOf y6) [.slice B6 y6.size d6]] := HS
         have F := HS.boxes; simp only [boxFacts, and_true] at F
         refine hK.out _ _ ⟨_, HS⟩ (fun HH => ?_)
         clear hK K
         refine norm_ (a' := ?_) ?_ ?_
         rotate_left
         · show Act.put _ (some 27) _ = _; simp only [Act.put, List.setIfInBounds_toArray, List.set_cons_zero, List.set_cons_succ, i64_w, i32_w]; rfl
         refine drq_of [(2, some 28), (3, some 29), (4, some 30), (5, some 31)] ?_
         repeat (first | (refine drq_pure HT (v := ?_) (a' := ?_) rfl rfl (by kernel_rfl) (fun _ _ _ h => h) (.inl ⟨by rfl, ?_⟩) ?_ ?_; rotate_left; (intro w'; go_simp; with_reducible rfl); rotate_left; (simp only [Act.put, List.setIfInBounds_toArray, List.set_cons_zero, List.set_cons_succ, i64_w, i32_w]; rfl)) | (refine drq_take HT HH (v := ?_) (a' := ?_) rfl rfl (by kernel_rfl) (fun _ _ _ h => h) (.inl ⟨by rfl, ?_⟩) ?_ ?_; rotate_left; (rintro w' ⟨rs', HS'⟩; have F := HS'.boxes; simp only [boxFacts, List.cons_append, List.nil_append, and_true] at F; go_simp; with_reducible rfl); rotate_left; (simp only [Act.put, List.setIfInBounds_toArray, List.set_cons_zero, List.set_cons_succ, i64_w, i32_w]; rfl)))
         refine drq_end ?_
         refine dr_one 6 HT rfl (by kernel_rfl) (by decide) (fun K hK => ?_)
         refine goes_ Try.func127 (by kernel_rfl) rfl #[.int .i64 x19] (by rfl) rfl rfl (by simp only [List.map_toArray, List.map_cons, List.map_nil]; rfl) ?_; refine (impl_IntItem.calls ht106001.out).mono ?_; rintro _ wt106001 ⟨v106002, rfl, HQ⟩; refine ⟨_, rfl, ?_⟩; replace HS := HS.call HQ; clear HQ; (try clear F); obtain ⟨B106002, d106002, rfl, m106002⟩ := HS.form 2 rfl
         replace HS : Hp noFP w _ [.box g1 [.int .i64 a0.f0, .string a0.f1, .slice Ap0 a0.f2.length cp0] 107, .own (Zd.view 5 (Zd.int .u8)) (bytesOf y6) [.slice B6 y6.size d6], .own (Zd.slice 107 q107) t106001.f2 [.slice B106002 t106001.f2.length d106002]] := HS
         have F := HS.boxes; simp only [boxFacts, and_true] at F
         refine hK.out _ _ ⟨_, HS⟩ (fun HH => ?_)
         clear hK K
         refine norm_ (a' := ?_) ?_ ?_
         rotate_left
         · show Act.put _ (some 32) _ = _; simp only [Act.put, List.setIfInBounds_toArray, List.set_cons_zero, List.set_cons_succ, i64_w, i32_w]; rfl
         refine dr_one 7 HT rfl (by kernel_rfl) (by decide) (fun K hK => ?_)
         refine goes_ Try.func171 (by kernel_rfl) rfl #[.agg #[.int .i64 a0.f0, .string a0.f1, .slice Ap0 a0.f2.length cp0], .agg #[.int .i64 t106001.f0, .string t106001.f1, .slice B106002 t106001.f2.length d106002]] (by rfl) rfl rfl (by simp only [List.map_toArray, List.map_cons, List.map_nil]; rfl) ?_; refine (impl_SameItem.calls ht107001.out (HS.ro gp0) lp0 (HS.rd 2 rfl) m106002).mono ?_; rintro _ wt107001 ⟨rfl, HQ⟩; refine ⟨_, rfl, ?_⟩; replace HS := HS.call HQ; clear HQ; (try clear F)
         replace HS : Hp noFP w _ [.box g1 [.int .i64 a0.f0, .string a0.f1, .slice Ap0 a0.f2.length cp0] 107, .own (Zd.view 5 (Zd.int .u8)) (bytesOf y6) [.slice B6 y6.size d6], .own (Zd.slice 107 q107) t106001.f2 [.slice B106002 t106001.f2.length d106002]] := HS
         have F := HS.boxes; simp only [boxFacts, and_true] at F
         refine hK.out _ _ ⟨_, HS⟩ (fun HH => ?_)
         clear hK K
         refine norm_ (a' := ?_) ?_ ?_
         rotate_left
         · show Act.put _ (some 33) _ = _; simp only [Act.put, List.setIfInBounds_toArray, List.set_cons_zero, List.set_cons_succ, i64_w, i32_w]; rfl
         refine drq_of [(8, some 34), (9, some 35)] ?_
         repeat (first | (refine drq_pure HT (v := ?_) (a' := ?_) rfl rfl (by kernel_rfl) (fun _ _ _ h => h) (.inl ⟨by rfl, ?_⟩) ?_ ?_; rotate_left; (intro w'; go_simp; with_reducible rfl); rotate_left; (simp only [Act.put, List.setIfInBounds_toArray, List.set_cons_zero, List.set_cons_succ, i64_w, i32_w]; rfl)))
         refine drq_end ?_
         refine done_ (done_of HT.out (by kernel_rfl)) ?_
         (try clear F)
         have F := HS.boxes; simp only [boxFacts, and_true] at F
         by_cases c29 : t107001 = true
         · replace H := zpos c29 H
           subst c29
           (try simp only [decide_true, decide_false, Bool.not_true, Bool.not_false, if_true, Bool.false_eq_true, if_false])
           obtain ⟨rfl, rfl⟩ := zsome2 H
           go_wp2
           exact bodyPost_ret (results_list (rs := [.tmp 2, .tmp 3]) rfl (by simp) (.tmp (.tmp .nil))) rfl ⟨rfl, HS.pick [] (by decide) (by rfl)⟩
         · replace H := zneg c29 H
           replace c29 := eq_false_of_ne_true c29
           subst c29
           (try simp only [decide_true, decide_false, Bool.not_true, Bool.not_false, if_true, Bool.false_eq_true, if_false])
           obtain ⟨rfl, rfl⟩ := zsome2 H
           go_wp2
           exact bodyPost_ret (results_list (rs := [.tmp 2, .tmp 3]) rfl (by simp) (.tmp (.tmp .nil))) rfl ⟨rfl, HS.pick [] (by decide) (by rfl)⟩
       · replace H := zneg c103001 H
         replace c103001 := eq_false_of_ne_true c103001
         subst c103001
         refine dr_start [] HS #[false, false, false, false, false, false, false, false, false, false] (by kernel_rfl) rfl rfl impl_IntIn.tT7 (fun w30 HT HS HH => ?_)
         (try clear F)
         refine drq_of [(0, some 26)] ?_
         repeat (first | (refine drq_pure HT (v := ?_) (a' := ?_) rfl rfl (by kernel_rfl) (fun _ _ _ h => h) (.inl ⟨by rfl, ?_⟩) ?_ ?_; rotate_left; (intro w'; go_simp; with_reducible rfl); rotate_left; (simp only [Act.put, List.setIfInBounds_toArray, List.set_cons_zero, List.set_cons_succ, i64_w, i32_w]; rfl)))
         refine drq_end ?_
         refine dr_one 1 HT rfl (by kernel_rfl) (by decide) (fun K hK => ?_)
         refine goes_ Try.func132 (by kernel_rfl) rfl #[.int .i64 x19, .int .i64 0, .int .i64 1000000000] (by rfl) rfl rfl (by simp only [List.map_toArray, List.map_cons, List.map_nil]; rfl) ?_; refine (impl_within.calls ht101001.out).mono ?_; rintro _ wt101001 ⟨rfl, HQ⟩; refine ⟨_, rfl, ?_⟩; replace HS := HS.call HQ; clear HQ; (try clear F)
         replace HS : Hp noFP w _ [.box g1 [.int .i64 a0.f0, .string a0.f1, .slice Ap0 a0.f2.length cp0] 107, .own (Zd.view 5 (Zd.int .u8)) (bytesOf y6) [.slice B6 y6.size d6]] := HS
         have F := HS.boxes; simp only [boxFacts, and_true] at F
         refine hK.out _ _ ⟨_, HS⟩ (fun HH => ?_)
         clear hK K
         refine norm_ (a' := ?_) ?_ ?_
         rotate_left
         · show Act.put _ (some 27) _ = _; simp only [Act.put, List.setIfInBounds_toArray, List.set_cons_zero, List.set_cons_succ, i64_w, i32_w]; rfl
         refine drq_of [(2, some 28), (3, some 29), (4, some 30), (5, some 31), (6, some 32), (7, some 33), (8, some 34), (9, some 35)] ?_
         repeat (first | (refine drq_pure HT (v := ?_) (a' := ?_) rfl rfl (by kernel_rfl) (fun _ _ _ h => h) (.inl ⟨by rfl, ?_⟩) ?_ ?_; rotate_left; (intro w'; go_simp; with_reducible rfl); rotate_left; (simp only [Act.put, List.setIfInBounds_toArray, List.set_cons_zero, List.set_cons_succ, i64_w, i32_w]; rfl)) | (refine drq_pure HT (v := undef) (a' := ?_) rfl rfl (by kernel_rfl) (fun _ _ _ h => h) (.inr ⟨by rfl, rfl⟩) ?_ ?_; rotate_left; (simp only [Act.put, List.setIfInBounds_toArray, List.set_cons_zero, List.set_cons_succ, i64_w, i32_w]; rfl)))
         refine drq_end ?_
         refine done_ (done_of HT.out (by kernel_rfl)) ?_
         (try clear F)
         have F := HS.boxes; simp only [boxFacts, and_true] at F
         obtain ⟨rfl, rfl⟩ := zsome2 H
         go_wp2
         exact bodyPost_ret (results_list (rs := [.tmp 2, .tmp 3]) rfl (by simp) (.tmp (.tmp .nil))) rfl ⟨rfl, HS.pick [] (by decide) (by rfl)⟩
 · replace H := zneg c3 H
   replace c3 := eq_false c3
   by_cases c32 : 0 ≤ (a0.f1.size : Int)
   case neg => exact zno c32 H
   replace H := zpos c32 H
   replace c32 := eq_true c32
   by_cases c33 : (a0.f1.size : Int) ≤ (a0.f1.size : Int)
   case neg => exact zno c33 H
   replace H := zpos c33 H
   replace c33 := eq_true c33
   replace H := zlets H; obtain ⟨y34, e_y34, H⟩ := H
   by_cases c35 : y34.size ≤ 9223372036854775807
   case neg => exact zno c35 H
   replace H := zpos c35 H
   replace c35 := eq_true c35
   go_wp2_with (first | ((with_reducible refine gate_dst (N := 1) rfl ?_); refine ev_box rfl HS (by first | (go_simp; done) | (go_simp; rfl)) rfl ?_; clear HS; (try clear F); intro g1 w1 HS; replace HS : Hp noFP w _ [.box g1 [.int .i64 a0.f0, .string a0.f1, .slice Ap0 a0.f2.length cp0] 107] := HS; have F := HS.boxes; simp only [boxFacts, and_true] at F) | ((with_reducible refine gate_dst (N := 13) rfl ?_); refine ev_val rfl (run_cut rfl rfl Try.underlying9 (.inl ⟨rfl, rfl⟩) (.inr ⟨_, _, rfl, rfl, by have := of_eq_true (eq_true (by decide : (0:Int) ≤ 0)); have := of_eq_true c32; have := of_eq_true c33; omega⟩) (by have := of_eq_true (eq_true (by decide : (0:Int) ≤ 0)); have := of_eq_true c32; have := of_eq_true c33; omega) (by have := of_eq_true (eq_true (by decide : (0:Int) ≤ 0)); have := of_eq_true c32; have := of_eq_true c33; omega)) ?_) | ((with_reducible refine gate_dst (N := 14) rfl ?_); refine ev_bytes rfl HS rfl (s := y34) (by rw [e_y34.out]; rfl) Try.underlying9 Try.underlying162 Try.underlying5 (of_eq_true c35) ?_; clear HS; (try clear F); intro v34 w34 HS; obtain ⟨B34, d34, rfl, m34⟩ := HS.vformb 1 rfl; replace HS : Hp noFP w _ [.box g1 [.int .i64 a0.f0, .string a0.f1, .slice Ap0 a0.f2.length cp0] 107, .own (Zd.view 5 (Zd.int .u8)) (bytesOf y34) [.slice B34 y34.size d34]] := HS; have F := HS.boxes; simp only [boxFacts, and_true] at F))
   go_loopg [4, 16] k (fun kq v_4 v_16 w' => ∃ (x47 : Int) (x48 : Int), v_4 = .int .i64 x47 ∧ v_16 = .int .i64 x48 ∧ Aside0 (impl_IntIn.l1 kq x47 x48 a0 y34 = some (r1, r2)) ∧ Aside0 (kq ≤ k) ∧ Hp noFP w w' [.box g1 [.int .i64 a0.f0, .string a0.f1, .slice Ap0 a0.f2.length cp0] 107, .own (Zd.view 5 (Zd.int .u8)) (bytesOf y34) [.slice B34 y34.size d34]])
   case atStart => exact ⟨_, _, rfl, rfl, H, ⟨Nat.le_refl _⟩, HS⟩
   case round =>
    clear HS H; (try clear F)
    obtain ⟨x47, x48, rfl, rfl, H, HKk46, HS⟩ := hrel
    have F := HS.boxes; simp only [boxFacts, and_true] at F
    cases gk with
    | zero => exact absurd H.out (by simp [impl_IntIn.l1])
    | succ k46 =>
     simp only [impl_IntIn.l1] at H
     by_cases c50 : x48 < (y34.size : Int)
     · replace H := zpos c50 H
       replace c50 := eq_true c50
       by_cases c51 : 0 ≤ x48
       case neg => exact zno c51 H
       replace H := zpos c51 H
       replace c51 := eq_true c51
       by_cases c52 : x48 < (y34.size : Int)
       case neg => exact zno c52 H
       replace H := zpos c52 H
       replace c52 := eq_true c52
       obtain ⟨ad53, rfl, e53_0⟩ := Kd.at_int (HS.vrd 1 rfl) x48 (of_eq_true c51) (of_eq_true c52)
       go_wp2
       go_roundg k46
       case measure => have := HKk46.out; omega
       case rel => exact ⟨_, _, rfl, rfl, H, ⟨by have := HKk46.out; omega⟩, HS.pick [0, 1] (by decide) (by rfl)⟩
     · replace H := zneg c50 H
       replace c50 := eq_false c50
       (try go_wp2)
       replace H := zbind H; obtain ⟨t201001, ht201001, H⟩ := H
       by_cases c203001 : t201001 = true
       · replace H := zpos c203001 H
         subst c203001
         replace H := zbind H; obtain ⟨t206001, ht206001, H⟩ := H
         replace H := zbind H; obtain ⟨t207001, ht207001, H⟩ := H
         refine dr_start [] HS #[false, false, false, false, false, false, false, false, false, false] (by kernel_rfl) rfl rfl impl_IntIn.tT7 (fun w55 HT HS HH => ?_)
         (try clear F)
         refine drq_of [(0, some 26)] ?_
         repeat (first | (refine drq_pure HT (v := ?_) (a' := ?_) rfl rfl (by kernel_rfl) (fun _ _ _ h => h) (.inl ⟨by rfl, ?_⟩) ?_ ?_; rotate_left; (intro w'; go_simp; with_reducible rfl); rotate_left; (simp only [Act.put, List.setIfInBounds_toArray, List.set_cons_zero, List.set_cons_succ, i64_w, i32_w]; rfl)))
         refine drq_end ?_
         refine dr_one 1 HT rfl (by kernel_rfl) (by decide) (fun K hK => ?_)
         refine goes_ Try.func132 (by kernel_rfl) rfl #[.int .i64 x47, .int .i64 0, .int .i64 1000000000] (by rfl) rfl rfl (by simp only [List.map_toArray, List.map_cons, List.map_nil]; rfl) ?_; refine (impl_within.calls ht201001.out).mono ?_; rintro _ wt201001 ⟨rfl, HQ⟩; refine ⟨_, rfl, ?_⟩; replace HS := HS.call HQ; clear HQ; (try clear F)
         replace HS : Hp noFP w _ [.box g1 [.int .i64 a0.f0, .string a0.f1, .slice Ap0 a0.f2.length cp0] 107, .own (Zd.view 5 (Zd.int .u8)) (bytesOf y34) [.slice B34 y34.size d34]] := HS
         have F := HS.boxes; simp only [boxFacts, and_true] at F
         refine hK.out _ _ ⟨_, HS⟩ (fun HH => ?_)
         clear hK K
         refine norm_ (a' := ?_) ?_ ?_
         rotate_left
         · show Act.put _ (some 27) _ = _; simp only [Act.put, List.setIfInBounds_toArray, List.set_cons_zero, List.set_cons_succ, i64_w, i32_w]; rfl
         refine drq_of [(2, some 28), (3, some 29), (4, some 30), (5, some 31)] ?_
         repeat (first | (refine drq_pure HT (v := ?_) (a' := ?_) rfl rfl (by kernel_rfl) (fun _ _ _ h => h) (.inl ⟨by rfl, ?_⟩) ?_ ?_; rotate_left; (intro w'; go_simp; with_reducible rfl); rotate_left; (simp only [Act.put, List.setIfInBounds_toArray, List.set_cons_zero, List.set_cons_succ, i64_w, i32_w]; rfl)) | (refine drq_take HT HH (v := ?_) (a' := ?_) rfl rfl (by kernel_rfl) (fun _ _ _ h => h) (.inl ⟨by rfl, ?_⟩) ?_ ?_; rotate_left; (rintro w' ⟨rs', HS'⟩; have F := HS'.boxes; simp only [boxFacts, List.cons_append, List.nil_append, and_true] at F; go_simp; with_reducible rfl); rotate_left; (simp only [Act.put, List.setIfInBounds_toArray, List.set_cons_zero, List.set_cons_succ, i64_w, i32_w]; rfl)))
         refine drq_end ?_
         refine dr_one 6 HT rfl (by kernel_rfl) (by decide) (fun K hK => ?_)
         refine goes_ Try.func127 (by kernel_rfl) rfl #[.int .i64 x47] (by rfl) rfl rfl (by simp only [List.map_toArray, List.map_cons, List.map_nil]; rfl) ?_; refine (impl_IntItem.calls ht206001.out).mono ?_; rintro _ wt206001 ⟨v206002, rfl, HQ⟩; refine ⟨_, rfl, ?_⟩; replace HS := HS.call HQ; clear HQ; (try clear F); obtain ⟨B206002, d206002, rfl, m206002⟩ := HS.form 2 rfl
         replace HS : Hp noFP w _ [.box g1 [.int .i64 a0.f0, .string a0.f1, .slice Ap0 a0.f2.length cp0] 107, .own (Zd.view 5 (Zd.int .u8)) (bytesOf y34) [.slice B34 y34.size d34], .own (Zd.slice 107 q107) t206001.f2 [.slice B206002 t206001.f2.length d206002]] := HS
         have F := HS.boxes; simp only [boxFacts, and_true] at F
         refine hK.out _ _ ⟨_, HS⟩ (fun HH => ?_)
         clear hK K
         refine norm_ (a' := ?_) ?_ ?_
         rotate_left
         · show Act.put _ (some 32) _ = _; simp only [Act.put, List.setIfInBounds_toArray, List.set_cons_zero, List.set_cons_succ, i64_w, i32_w]; rfl
         refine dr_one 7 HT rfl (by kernel_rfl) (by decide) (fun K hK => ?_)
         refine goes_ Try.func171 (by kernel_rfl) rfl #[.agg #[.int .i64 a0.f0, .string a0.f1, .slice Ap0 a0.f2.length cp0], .agg #[.int .i64 t206001.f0, .string t206001.f1, .slice B206002 t206001.f2.length d206002]] (by rfl) rfl rfl (by simp only [List.map_toArray, List.map_cons, List.map_nil]; rfl) ?_; refine (impl_SameItem.calls ht207001.out (HS.ro gp0) lp0 (HS.rd 2 rfl) m206002).mono ?_; rintro _ wt207001 ⟨rfl, HQ⟩; refine ⟨_, rfl, ?_⟩; replace HS := HS.call HQ; clear HQ; (try clear F)
         replace HS : Hp noFP w _ [.box g1 [.int .i64 a0.f0, .string a0.f1, .slice Ap0 a0.f2.length cp0] 107, .own (Zd.view 5 (Zd.int .u8)) (bytesOf y34) [.slice B34 y34.size d34], .own (Zd.slice 107 q107) t206001.f2 [.slice B206002 t206001.f2.length d206002]] := HS
         have F := HS.boxes; simp only [boxFacts, and_true] at F
         refine hK.out _ _ ⟨_, HS⟩ (fun HH => ?_)
         clear hK K
         refine norm_ (a' := ?_) ?_ ?_
         rotate_left
         · show Act.put _ (some 33) _ = _; simp only [Act.put, List.setIfInBounds_toArray, List.set_cons_zero, List.set_cons_succ, i64_w, i32_w]; rfl
         refine drq_of [(8, some 34), (9, some 35)] ?_
         repeat (first | (refine drq_pure HT (v := ?_) (a' := ?_) rfl rfl (by kernel_rfl) (fun _ _ _ h => h) (.inl ⟨by rfl, ?_⟩) ?_ ?_; rotate_left; (intro w'; go_simp; with_reducible rfl); rotate_left; (simp only [Act.put, List.setIfInBounds_toArray, List.set_cons_zero, List.set_cons_succ, i64_w, i32_w]; rfl)))
         refine drq_end ?_
         refine done_ (done_of HT.out (by kernel_rfl)) ?_
         (try clear F)
         have F := HS.boxes; simp only [boxFacts, and_true] at F
         by_cases c57 : t207001 = true
         · replace H := zpos c57 H
           subst c57
           (try simp only [decide_true, decide_false, Bool.not_true, Bool.not_false, if_true, Bool.false_eq_true, if_false])
           obtain ⟨rfl, rfl⟩ := zsome2 H
           go_wp2
           exact bodyPost_ret (results_list (rs := [.tmp 2, .tmp 3]) rfl (by simp) (.tmp (.tmp .nil))) rfl ⟨rfl, HS.pick [] (by decide) (by rfl)⟩
         · replace H := zneg c57 H
           replace c57 := eq_false_of_ne_true c57
           subst c57
           (try simp only [decide_true, decide_false, Bool.not_true, Bool.not_false, if_true, Bool.false_eq_true, if_false])
           obtain ⟨rfl, rfl⟩ := zsome2 H
           go_wp2
           exact bodyPost_ret (results_list (rs := [.tmp 2, .tmp 3]) rfl (by simp) (.tmp (.tmp .nil))) rfl ⟨rfl, HS.pick [] (by decide) (by rfl)⟩
       · replace H := zneg c203001 H
         replace c203001 := eq_false_of_ne_true c203001
         subst c203001
         refine dr_start [] HS #[false, false, false, false, false, false, false, false, false, false] (by kernel_rfl) rfl rfl impl_IntIn.tT7 (fun w58 HT HS HH => ?_)
         (try clear F)
         refine drq_of [(0, some 26)] ?_
         repeat (first | (refine drq_pure HT (v := ?_) (a' := ?_) rfl rfl (by kernel_rfl) (fun _ _ _ h => h) (.inl ⟨by rfl, ?_⟩) ?_ ?_; rotate_left; (intro w'; go_simp; with_reducible rfl); rotate_left; (simp only [Act.put, List.setIfInBounds_toArray, List.set_cons_zero, List.set_cons_succ, i64_w, i32_w]; rfl)))
         refine drq_end ?_
         refine dr_one 1 HT rfl (by kernel_rfl) (by decide) (fun K hK => ?_)
         refine goes_ Try.func132 (by kernel_rfl) rfl #[.int .i64 x47, .int .i64 0, .int .i64 1000000000] (by rfl) rfl rfl (by simp only [List.map_toArray, List.map_cons, List.map_nil]; rfl) ?_; refine (impl_within.calls ht201001.out).mono ?_; rintro _ wt201001 ⟨rfl, HQ⟩; refine ⟨_, rfl, ?_⟩; replace HS := HS.call HQ; clear HQ; (try clear F)
         replace HS : Hp noFP w _ [.box g1 [.int .i64 a0.f0, .string a0.f1, .slice Ap0 a0.f2.length cp0] 107, .own (Zd.view 5 (Zd.int .u8)) (bytesOf y34) [.slice B34 y34.size d34]] := HS
         have F := HS.boxes; simp only [boxFacts, and_true] at F
         refine hK.out _ _ ⟨_, HS⟩ (fun HH => ?_)
         clear hK K
         refine norm_ (a' := ?_) ?_ ?_
         rotate_left
         · show Act.put _ (some 27) _ = _; simp only [Act.put, List.setIfInBounds_toArray, List.set_cons_zero, List.set_cons_succ, i64_w, i32_w]; rfl
         refine drq_of [(2, some 28), (3, some 29), (4, some 30), (5, some 31), (6, some 32), (7, some 33), (8, some 34), (9, some 35)] ?_
         repeat (first | (refine drq_pure HT (v := ?_) (a' := ?_) rfl rfl (by kernel_rfl) (fun _ _ _ h => h) (.inl ⟨by rfl, ?_⟩) ?_ ?_; rotate_left; (intro w'; go_simp; with_reducible rfl); rotate_left; (simp only [Act.put, List.setIfInBounds_toArray, List.set_cons_zero, List.set_cons_succ, i64_w, i32_w]; rfl)) | (refine drq_pure HT (v := undef) (a' := ?_) rfl rfl (by kernel_rfl) (fun _ _ _ h => h) (.inr ⟨by rfl, rfl⟩) ?_ ?_; rotate_left; (simp only [Act.put, List.setIfInBounds_toArray, List.set_cons_zero, List.set_cons_succ, i64_w, i32_w]; rfl)))
         refine drq_end ?_
         refine done_ (done_of HT.out (by kernel_rfl)) ?_
         (try clear F)
         have F := HS.boxes; simp only [boxFacts, and_true] at F
         obtain ⟨rfl, rfl⟩ := zsome2 H
         go_wp2
         exact bodyPost_ret (results_list (rs := [.tmp 2, .tmp 3]) rfl (by simp) (.tmp (.tmp .nil))) rfl ⟨rfl, HS.pick [] (by decide) (by rfl)⟩
/-! ### impl_opener_num_0: function 93 -/
def impl_opener_num_0.f (k : Nat) (a0 : S133) (a1 : S107) : Option (Int × S133) := ((impl_IntIn.f k a1).bind fun t3 => (if a0.f0 = true then (some (t3.1, (⟨true⟩ : S133))) else (some (t3.1, (⟨(!t3.2)⟩ : S133)))))
set_option maxHeartbeats 16000000 in
theorem impl_opener_num_0.calls {k : Nat} {a0 : S133} {a1 : S107} {A : FP} {p0 : Nat} {Ap1 : Option Addr} {np1 cp1 : Nat} {wv : World} {r1 : Int} {r2 : S133} {w : World} (h : impl_opener_num_0.f k a0 a1 = some (r1, r2)) (gp1 : k107.C wv Ap1 np1 a1.f2) (lp1 : np1 ≤ cp1) (hV : View A w wv) (HS : Hp A w w [.box p0 [.bool a0.f0] 133]) :
    Calls Try.prog 93 #[.pointer (some ⟨p0, 0, none⟩), .agg #[.int .i64 a1.f0, .string a1.f1, .slice Ap1 np1 cp1]] w (fun e w' => e = .returned (.int .i64 r1) ∧ Hp A w w' [.box p0 [.bool r2.f0] 133]) := by
 obtain rfl := C_len gp1
 have H := Aside0.mk h
 clear h
 unfold impl_opener_num_0.f at H
 go_enter Try.func93, Try.ntmps93
 replace H := zbind H; obtain ⟨t3, ht3, H⟩ := H
 by_cases c5 : a0.f0 = true
 · replace H := zpos c5 H
   obtain ⟨rfl, rfl⟩ := zsome2 H
   go_wp2_with (first | ((with_reducible refine gate_dst (N := 3) rfl ?_); refine ev_box rfl HS (by first | (go_simp; done) | (go_simp; rfl)) rfl ?_; clear HS; (try clear F); intro g3 w3 HS; replace HS : Hp A w _ [.box p0 [.bool a0.f0] 133, .box g3 [.int .i64 a1.f0, .string a1.f1, .slice Ap1 a1.f2.length cp1] 107] := HS; have F := HS.boxes; simp only [boxFacts, and_true] at F) | ((with_reducible refine gate_dst (N := 9) rfl ?_); refine ev_call rfl Try.func146 (by kernel_rfl) rfl #[.agg #[.int .i64 a1.f0, .string a1.f1, .slice Ap1 a1.f2.length cp1]] rfl (by simp only [List.map_toArray, List.map_cons, List.map_nil]; rfl) ?_; refine (impl_IntIn.calls ht3.out (hV.ro km107 HS gp1) lp1).mono ?_; rintro _ wt3 ⟨rfl, HQ⟩; refine ⟨_, rfl, ?_⟩; replace HS := HS.call HQ; clear HQ; (try clear F); replace HS : Hp A w _ [.box p0 [.bool a0.f0] 133, .box g3 [.int .i64 a1.f0, .string a1.f1, .slice Ap1 a1.f2.length cp1] 107] := HS; have F := HS.boxes; simp only [boxFacts, and_true] at F; (try simp only [c5])) | ((with_reducible refine gate_store (p := 22) rfl ?_); refine ev_store rfl 0 0 HS (seg := [.bool true]) rfl rfl rfl rfl rfl rfl (by kernel_rfl) (by simp [wrt]) (by simp [Value.oneCell']) ?_; clear HS; (try clear F); intro w6 HS; replace HS : Hp A w _ [.box p0 [.bool true] 133, .box g3 [.int .i64 a1.f0, .string a1.f1, .slice Ap1 a1.f2.length cp1] 107] := HS; have F := HS.boxes; simp only [boxFacts, and_true] at F))
   go_ret
   exact ⟨rfl, HS.pick [0] (by decide) (by rfl)⟩
 · replace H := zneg c5 H
   replace c5 := eq_false_of_ne_true c5
   obtain ⟨rfl, rfl⟩ := zsome2 H
   go_wp2_with (first | ((with_reducible refine gate_dst (N := 3) rfl ?_); refine ev_box rfl HS (by first | (go_simp; done) | (go_simp; rfl)) rfl ?_; clear HS; (try clear F); intro g3 w3 HS; replace HS : Hp A w _ [.box p0 [.bool a0.f0] 133, .box g3 [.int .i64 a1.f0, .string a1.f1, .slice Ap1 a1.f2.length cp1] 107] := HS; have F := HS.boxes; simp only [boxFacts, and_true] at F) | ((with_reducible refine gate_dst (N := 9) rfl ?_); refine ev_call rfl Try.func146 (by kernel_rfl) rfl #[.agg #[.int .i64 a1.f0, .string a1.f1, .slice Ap1 a1.f2.length cp1]] rfl (by simp only [List.map_toArray, List.map_cons, List.map_nil]; rfl) ?_; refine (impl_IntIn.calls ht3.out (hV.ro km107 HS gp1) lp1).mono ?_; rintro _ wt3 ⟨rfl, HQ⟩; refine ⟨_, rfl, ?_⟩; replace HS := HS.call HQ; clear HQ; (try clear F); replace HS : Hp A w _ [.box p0 [.bool a0.f0] 133, .box g3 [.int .i64 a1.f0, .string a1.f1, .slice Ap1 a1.f2.length cp1] 107] := HS; have F := HS.boxes; simp only [boxFacts, and_true] at F; (try simp only [c5])) | ((with_reducible refine gate_store (p := 22) rfl ?_); refine ev_store rfl 0 0 HS (seg := [.bool (!t3.2)]) rfl rfl rfl rfl rfl rfl (by kernel_rfl) (by simp [wrt]) (by simp [Value.oneCell']) ?_; clear HS; (try clear F); intro w8 HS; replace HS : Hp A w _ [.box p0 [.bool (!t3.2)] 133, .box g3 [.int .i64 a1.f0, .string a1.f1, .slice Ap1 a1.f2.length cp1] 107] := HS; have F := HS.boxes; simp only [boxFacts, and_true] at F))
   go_ret
   exact ⟨rfl, HS.pick [0] (by decide) (by rfl)⟩
/-! ### impl_opener_flag_0: function 94 -/
def impl_opener_flag_0.f (a0 : S133) (a1 : S107) : Option (Bool × S133) := ((impl_opener_text_0.f a0 a1 1).bind fun t3 => (some ((t3.1.toList == ([255] : List UInt8)), t3.2)))
set_option maxHeartbeats 16000000 in
theorem impl_opener_flag_0.calls {a0 : S133} {a1 : S107} {A : FP} {p0 : Nat} {Ap1 : Option Addr} {np1 cp1 : Nat} {wv : World} {r1 : Bool} {r2 : S133} {w : World} (h : impl_opener_flag_0.f a0 a1 = some (r1, r2)) (gp1 : k107.C wv Ap1 np1 a1.f2) (lp1 : np1 ≤ cp1) (hV : View A w wv) (HS : Hp A w w [.box p0 [.bool a0.f0] 133]) :
    Calls Try.prog 94 #[.pointer (some ⟨p0, 0, none⟩), .agg #[.int .i64 a1.f0, .string a1.f1, .slice Ap1 np1 cp1]] w (fun e w' => e = .returned (.bool r1) ∧ Hp A w w' [.box p0 [.bool r2.f0] 133]) := by
 obtain rfl := C_len gp1
 have H := Aside0.mk h
 clear h
 unfold impl_opener_flag_0.f at H
 go_enter Try.func94, Try.ntmps94
 replace H := zbind H; obtain ⟨t3, ht3, H⟩ := H
 obtain ⟨rfl, rfl⟩ := zsome2 H
 go_wp2_with (first | ((with_reducible refine gate_dst (N := 3) rfl ?_); refine ev_box rfl HS (by first | (go_simp; done) | (go_simp; rfl)) rfl ?_; clear HS; (try clear F); intro g3 w3 HS; replace HS : Hp A w _ [.box p0 [.bool a0.f0] 133, .box g3 [.int .i64 a1.f0, .string a1.f1, .slice Ap1 a1.f2.length cp1] 107] := HS; have F := HS.boxes; simp only [boxFacts, and_true] at F) | ((with_reducible refine gate_dst (N := 7) rfl ?_); refine HS.lend [0] (by decide) [.box p0 [.bool a0.f0] 133] rfl (fun A' HL HD HA HB => ?_); refine ev_call rfl Try.func145 (by kernel_rfl) rfl #[.pointer (some ⟨p0, 0, none⟩), .agg #[.int .i64 a1.f0, .string a1.f1, .slice Ap1 a1.f2.length cp1], .int .i64 1] rfl (by simp only [List.map_toArray, List.map_cons, List.map_nil]; rfl) ?_; refine (impl_opener_text_0.calls ht3.out gp1 lp1 (hV.lend HS HL) HA).mono ?_; rintro _ wt3 ⟨rfl, HQ⟩; refine ⟨_, rfl, ?_⟩; replace HS : Hp A w _ [.box p0 [.bool t3.2.f0] 133, .box g3 [.int .i64 a1.f0, .string a1.f1, .slice Ap1 a1.f2.length cp1] 107] := HB _ _ HQ (Nat.le_of_ble_eq_true rfl); clear HQ HA HB HL HD; (try clear F); replace HS : Hp A w _ [.box p0 [.bool t3.2.f0] 133, .box g3 [.int .i64 a1.f0, .string a1.f1, .slice Ap1 a1.f2.length cp1] 107] := HS; have F := HS.boxes; simp only [boxFacts, and_true] at F))
 go_ret
 exact ⟨rfl, HS.pick [0] (by decide) (by rfl)⟩
/-! ### impl_bytesItem: function 74 -/
def impl_bytesItem.f (a0 : ByteArray) : Option (S107) := (some (⟨4, a0, ([] : List S107)⟩ : S107))
set_option maxHeartbeats 16000000 in
theorem impl_bytesItem.calls {a0 : ByteArray} {r : S107} {w : World} (h : impl_bytesItem.f a0 = some r) :
    Calls Try.prog 74 #[.string a0] w (fun e w' => ∃ v0_ : Value, e = .returned (.agg #[.int .i64 r.f0, .string r.f1, v0_]) ∧ Hp noFP w w' [.own (Zd.slice 107 q107) r.f2 [v0_]]) := by
 have HS := Hp.start w
 have H := Aside0.mk h
 clear h
 unfold impl_bytesItem.f at H
 go_enter Try.func74, Try.ntmps74
 obtain rfl := zsome H
 go_wp2_with (first | ((with_reducible refine gate_dst (N := 2) rfl ?_); refine ev_box rfl HS (by first | (go_simp; done) | (go_simp; rfl)) rfl ?_; clear HS; (try clear F); intro g2 w2 HS; replace HS : Hp noFP w _ [.box g2 [.int .i64 0, .string (⟨#[]⟩ : ByteArray), .slice none 0 0] 107] := HS; have F := HS.boxes; simp only [boxFacts, and_true] at F) | ((with_reducible refine gate_store (p := 2) rfl ?_); refine ev_store rfl 0 0 HS (seg := [.int .i64 4, .string a0, .slice none 0 0]) rfl rfl rfl rfl rfl rfl (by kernel_rfl) (by simp [wrt]) (by simp [Value.oneCell']) ?_; clear HS; (try clear F); intro w3 HS; replace HS : Hp noFP w _ [.box g2 [.int .i64 4, .string a0, .slice none 0 0] 107] := HS; have F := HS.boxes; simp only [boxFacts, and_true] at F))
 replace HS := HS.nil 107 q107
 exact bodyPost_ret (results_single rfl (.cell _ _ _ _ _ rfl (HS.boxAt (i := 0) rfl) Try.underlying107 rfl (by kernel_rfl) .nil)) rfl ⟨_, rfl, HS.pick [1] (by decide) (by rfl)⟩
/-! ### impl_each_string_0: function 128 -/
def impl_each_string_0.l0 : Nat → (List S107) → Int → (List ByteArray) → Option (S107)
  | 0, _, _, _ => none
  | k + 1, l22, x24, a0 => (if x24 < (a0.length : Int) then (if 0 ≤ x24 then (if x24 < (a0.length : Int) then ((impl_bytesItem.f (rdOf ByteArray.empty a0 x24)).bind fun t204001 => (if l22.length + 1 ≤ 2932031007402 then (lets (l22 ++ ([t204001] : List S107)) fun y206002 => (impl_each_string_0.l0 k y206002 (wrap64 (x24 + 1)) a0)) else none)) else none) else none) else (some (⟨48, (⟨#[]⟩ : ByteArray), l22⟩ : S107)))
def impl_each_string_0.f (k : Nat) (a0 : (List ByteArray)) : Option (S107) := (impl_each_string_0.l0 k [] 0 a0)
def impl_each_string_0.T5 : Bool × List (List Nat × List Nat) := (true, [([], []), ([0], [0]), ([], []), ([], []), ([2, 3], [2, 3]), ([4], [4]), ([1, 5, 4], [1, 5]), ([0, 1, 2, 3, 4, 5, 6], []), ([7, 6, 6, 0, 1, 2, 3, 4, 5, 6], [6, 7])])
theorem impl_each_string_0.tT5 : rtab .any (opsOf Try.f128 5) = impl_each_string_0.T5 := by kernel_rfl
set_option maxHeartbeats 16000000 in
theorem impl_each_string_0.calls {k : Nat} {a0 : (List ByteArray)} {Ap0 : Option Addr} {np0 cp0 : Nat} {r : S107} {w : World} (h : impl_each_string_0.f k a0 = some r) (gp0 : Kd.string.C w Ap0 np0 a0) (lp0 : np0 ≤ cp0) :
    Calls Try.prog 128 #[.slice Ap0 np0 cp0, .func (.func 74) #[] #[]] w (fun e w' => ∃ v0_ : Value, e = .returned (.agg #[.int .i64 r.f0, .string r.f1, v0_]) ∧ Hp noFP w w' [.own (Zd.slice 107 q107) r.f2 [v0_]]) := by
 obtain rfl := C_len gp0
 have HS := Hp.start w
 have H := Aside0.mk h
 clear h
 unfold impl_each_string_0.f at H
 go_enter Try.func128, Try.ntmps128
 go_wp2_with (first | ((with_reducible refine gate_dst (N := 4) rfl ?_); refine ev_box rfl HS (by first | (go_simp; done) | (go_simp; rfl)) rfl ?_; clear HS; (try clear F); intro g4 w4 HS; replace HS : Hp noFP w _ [.box g4 [.int .i64 0, .string (⟨#[]⟩ : ByteArray), .slice none 0 0] 107] := HS; have F := HS.boxes; simp only [boxFacts, and_true] at F) | ((with_reducible refine gate_dst (N := 5) rfl ?_); refine ev_box rfl HS (by first | (go_simp; done) | (go_simp; rfl)) rfl ?_; clear HS; (try clear F); intro g5 w5 HS; replace HS : Hp noFP w _ [.box g4 [.int .i64 0, .string (⟨#[]⟩ : ByteArray), .slice none 0 0] 107, .box g5 [.int .i64 0, .string (⟨#[]⟩ : ByteArray), .slice none 0 0] 107] := HS; have F := HS.boxes; simp only [boxFacts, and_true] at F) | ((with_reducible refine gate_store (p := 5) rfl ?_); refine ev_store rfl 1 0 HS (seg := [.int .i64 48, .string (⟨#[]⟩ : ByteArray), .slice none 0 0]) rfl rfl rfl rfl rfl rfl (by kernel_rfl) (by simp [wrt]) (by simp [Value.oneCell']) ?_; clear HS; (try clear F); intro w5 HS; replace HS : Hp noFP w _ [.box g4 [.int .i64 0, .string (⟨#[]⟩ : ByteArray), .slice none 0 0] 107, .box g5 [.int .i64 48, .string (⟨#[]⟩ : ByteArray), .slice none 0 0] 107] := HS; have F := HS.boxes; simp only [boxFacts, and_true] at F))
 replace HS := HS.nil 107 q107
 go_loopg [11] k (fun kq v_11 w' => ∃ (l22 : List S107) (v23 : Value) (x24 : Int), v_11 = .int .i64 x24 ∧ Aside0 (impl_each_string_0.l0 kq l22 x24 a0 = some r) ∧ Aside0 (kq ≤ k) ∧ Hp noFP w w' [.box g4 [.int .i64 0, .string (⟨#[]⟩ : ByteArray), .slice none 0 0] 107, .box g5 [.int .i64 48, .string (⟨#[]⟩ : ByteArray), v23] 107, .own (Zd.slice 107 q107) l22 [v23]])
 case atStart => exact ⟨_, _, _, rfl, H, ⟨Nat.le_refl _⟩, HS⟩
 case round =>
  clear HS H; (try clear F)
  obtain ⟨l22, v23, x24, rfl, H, HKk21, HS⟩ := hrel
  obtain ⟨B23, d23, rfl, m23⟩ := HS.form 2 rfl
  have F := HS.boxes; simp only [boxFacts, and_true] at F
  cases gk with
  | zero => exact absurd H.out (by simp [impl_each_string_0.l0])
  | succ k21 =>
   simp only [impl_each_string_0.l0] at H
   by_cases c26 : x24 < (a0.length : Int)
   · replace H := zpos c26 H
     replace c26 := eq_true c26
     by_cases c27 : 0 ≤ x24
     case neg => exact zno c27 H
     replace H := zpos c27 H
     replace c27 := eq_true c27
     by_cases c28 : x24 < (a0.length : Int)
     case neg => exact zno c28 H
     replace H := zpos c28 H
     replace c28 := eq_true c28
     obtain ⟨ad29, rfl, e29_0⟩ := Kd.at_string gp0 x24 (of_eq_true c27) (of_eq_true c28)
     have e29_0_29 := (HS.keepc e29_0)
     (try go_wp2)
     replace H := zbind H; obtain ⟨t204001, ht204001, H⟩ := H
     by_cases c206001 : l22.length + 1 ≤ 2932031007402
     case neg => exact zno c206001 H
     replace H := zpos c206001 H
     replace c206001 := eq_true c206001
     replace H := zlets H; obtain ⟨y206002, e_y206002, H⟩ := H
     refine dr_start2 [.box g4 [.int .i64 0, .string (⟨#[]⟩ : ByteArray), .slice none 0 0] 107, .box g5 [.int .i64 48, .string (⟨#[]⟩ : ByteArray), .slice B23 l22.length d23] 107, .emp] [8] HS (HS.arr [some 0, some 1, none] (by decide)) #[false, false, false, false, false, false, false, false, false] (by kernel_rfl) rfl rfl impl_each_string_0.tT5 (fun w31 HT HS HH => ?_)
     (try clear F)
     refine drq_of [(0, some 15), (1, some 16), (2, some 17), (3, some 18)] ?_
     repeat (first | (refine drq_pure HT (v := ?_) (a' := ?_) rfl rfl (by kernel_rfl) (fun _ _ _ h => h) (.inl ⟨by rfl, ?_⟩) ?_ ?_; rotate_left; (intro w'; go_simp; with_reducible rfl); rotate_left; (simp only [Act.put, List.setIfInBounds_toArray, List.set_cons_zero, List.set_cons_succ, i64_w, i32_w]; rfl)) | (refine drq_take HT HH (v := ?_) (a' := ?_) rfl rfl (by kernel_rfl) (fun _ _ _ h => h) (.inl ⟨by rfl, ?_⟩) ?_ ?_; rotate_left; (rintro w' ⟨rs', HS'⟩; have F := HS'.boxes; simp only [boxFacts, List.cons_append, List.nil_append, and_true] at F; go_simp; with_reducible rfl); rotate_left; (simp only [Act.put, List.setIfInBounds_toArray, List.set_cons_zero, List.set_cons_succ, i64_w, i32_w]; rfl)))
     refine drq_end ?_
     refine dr_one 4 HT rfl (by kernel_rfl) (by decide) (fun K hK => ?_)
     refine if_wp (by rfl) ?_; refine wp_callv Try.func74 (by kernel_rfl) rfl #[.string (rdOf ByteArray.empty a0 x24)] #[.string (rdOf ByteArray.empty a0 x24)] rfl rfl (by simp only [List.map_toArray, List.map_cons, List.map_nil]; rfl) (by first | rfl | simp) ?_; refine (impl_bytesItem.calls ht204001.out).mono ?_; rintro _ wt204001 ⟨v204002, rfl, HQ⟩; refine ⟨_, rfl, ?_⟩; replace HS := HS.call HQ; clear HQ; (try clear F); obtain ⟨B204002, d204002, rfl, m204002⟩ := HS.form 3 rfl
     replace HS : Hp noFP w _ [.box g4 [.int .i64 0, .string (⟨#[]⟩ : ByteArray), .slice none 0 0] 107, .box g5 [.int .i64 48, .string (⟨#[]⟩ : ByteArray), .slice B23 l22.length d23] 107, .own (Zd.slice 107 q107) l22 [.slice B23 l22.length d23], .own (Zd.slice 107 q107) t204001.f2 [.slice B204002 t204001.f2.length d204002]] := HS
     have F := HS.boxes; simp only [boxFacts, and_true] at F
     refine hK.out _ _ ⟨[], HS.arr [some 0, some 1, none] (by decide)⟩ (fun HH => ?_)
     clear hK K
     refine norm_ (a' := ?_) ?_ ?_
     rotate_left
     · show Act.put _ (some 19) _ = _; simp only [Act.put, List.setIfInBounds_toArray, List.set_cons_zero, List.set_cons_succ, i64_w, i32_w]; rfl
     refine dr_one 5 HT rfl (by kernel_rfl) (by decide) (fun K hK => ?_)
     refine if_wp (by rfl) ?_; refine wp_lit q107 [3] ([t204001] : List S107) ([.int .i64 t204001.f0, .string t204001.f1, .slice B204002 t204001.f2.length d204002] ++ []) HS (by first | (go_simp; done) | (go_simp; rfl)) rfl rfl (Nat.le_of_ble_eq_true rfl) (MadeL.cons (js1 := [3]) (c := [.int .i64 t204001.f0, .string t204001.f1, .slice B204002 t204001.f2.length d204002]) rfl (fun S hd hh => q107_pack (x := t204001) hd (hh 3 (.own (Zd.slice 107 q107) t204001.f2 [.slice B204002 t204001.f2.length d204002]) rfl) (by decide)) MadeL.nil (by decide)) ?_; clear HS; (try clear F); intro v205001 w205001 HS; obtain ⟨B205001, d205001, rfl, m205001⟩ := HS.formn 1 4 rfl rfl
     replace HS : Hp noFP w _ [.box g4 [.int .i64 0, .string (⟨#[]⟩ : ByteArray), .slice none 0 0] 107, .box g5 [.int .i64 48, .string (⟨#[]⟩ : ByteArray), .slice B23 l22.length d23] 107, .own (Zd.slice 107 q107) l22 [.slice B23 l22.length d23], .emp, .own (Zd.slice 107 q107) ([t204001] : List S107) [.slice B205001 1 d205001]] := HS
     have F := HS.boxes; simp only [boxFacts, and_true] at F
     refine hK.out _ _ ⟨[], HS.arr [some 0, some 1, none] (by decide)⟩ (fun HH => ?_)
     clear hK K
     refine norm_ (a' := ?_) ?_ ?_
     rotate_left
     · show Act.put _ (some 20) _ = _; simp only [Act.put, List.setIfInBounds_toArray, List.set_cons_zero, List.set_cons_succ, i64_w, i32_w]; rfl
     refine dr_one 6 HT rfl (by kernel_rfl) (by decide) (fun K hK => ?_)
     refine if_wp (by rfl) ?_; refine wp_append q107 2 4 HS rfl rfl (by decide) rfl rfl rfl Try.underlying105 info107 rfl (by decide) (by decide) (by have := of_eq_true c206001; first | omega | (simp only [List.length_cons, List.length_nil, List.length_append, Nat.zero_add] at this ⊢; omega)) ?_; clear HS; (try clear F); intro v206002 w206002 HS; rw [← e_y206002.out] at HS; obtain ⟨B206002, d206002, rfl, m206002⟩ := HS.form 5 rfl
     replace HS : Hp noFP w _ [.box g4 [.int .i64 0, .string (⟨#[]⟩ : ByteArray), .slice none 0 0] 107, .box g5 [.int .i64 48, .string (⟨#[]⟩ : ByteArray), .slice B23 l22.length d23] 107, .emp, .emp, .emp, .own (Zd.slice 107 q107) y206002 [.slice B206002 y206002.length d206002]] := HS
     have F := HS.boxes; simp only [boxFacts, and_true] at F
     refine hK.out _ _ ⟨[], HS.arr [some 0, some 1, none] (by decide)⟩ (fun HH => ?_)
     clear hK K
     refine norm_ (a' := ?_) ?_ ?_
     rotate_left
     · show Act.put _ (some 21) _ = _; simp only [Act.put, List.setIfInBounds_toArray, List.set_cons_zero, List.set_cons_succ, i64_w, i32_w]; rfl
     refine drq_of [(7, some 22)] ?_
     repeat (first | (refine drq_pure HT (v := ?_) (a' := ?_) rfl rfl (by kernel_rfl) (fun _ _ _ h => h) (.inl ⟨by rfl, ?_⟩) ?_ ?_; rotate_left; (intro w'; go_simp; with_reducible rfl); rotate_left; (simp only [Act.put, List.setIfInBounds_toArray, List.set_cons_zero, List.set_cons_succ, i64_w, i32_w]; rfl)))
     refine drq_end ?_
     refine dr_last 8 HT rfl (by kernel_rfl) (by decide) (fun K hK => ?_)
     refine if_wp (by rfl) ?_; refine wp_store 1 2 HS (seg := [.slice B206002 y206002.length d206002]) rfl rfl rfl rfl rfl rfl (by kernel_rfl) (by simp [wrt]) (by simp [Value.oneCell']) ?_; clear HS; (try clear F); intro w208001 HS
     replace HS : Hp noFP w _ [.box g4 [.int .i64 0, .string (⟨#[]⟩ : ByteArray), .slice none 0 0] 107, .box g5 [.int .i64 48, .string (⟨#[]⟩ : ByteArray), .slice B206002 y206002.length d206002] 107, .emp, .emp, .emp, .own (Zd.slice 107 q107) y206002 [.slice B206002 y206002.length d206002]] := HS
     have F := HS.boxes; simp only [boxFacts, and_true] at F
     refine hK.out _ _ ?_
     clear hK K
     refine done_ (done_of HT.out (by kernel_rfl)) ?_
     (try clear F)
     have F := HS.boxes; simp only [boxFacts, and_true] at F
     go_wp2
     go_roundg k21
     case measure => have := HKk21.out; omega
     case rel => exact ⟨_, _, _, rfl, H, ⟨by have := HKk21.out; omega⟩, HS.pick [0, 1, 5] (by decide) (by rfl)⟩
   · replace H := zneg c26 H
     replace c26 := eq_false c26
     obtain rfl := zsome H
     go_wp2_with (first | ((with_reducible refine gate_store (p := 4) rfl ?_); refine ev_store rfl 0 0 HS (seg := [.int .i64 48, .string (⟨#[]⟩ : ByteArray), .slice B23 l22.length d23]) rfl rfl rfl rfl rfl rfl (by kernel_rfl) (by simp [wrt]) (by simp [Value.oneCell']) ?_; clear HS; (try clear F); intro w33 HS; replace HS : Hp noFP w _ [.box g4 [.int .i64 48, .string (⟨#[]⟩ : ByteArray), .slice B23 l22.length d23] 107, .box g5 [.int .i64 48, .string (⟨#[]⟩ : ByteArray), .slice B23 l22.length d23] 107, .own (Zd.slice 107 q107) l22 [.slice B23 l22.length d23]] := HS; have F := HS.boxes; simp only [boxFacts, and_true] at F))
     exact bodyPost_ret (results_single rfl (.cell _ _ _ _ _ rfl (HS.boxAt (i := 0) rfl) Try.underlying107 rfl (by kernel_rfl) .nil)) rfl ⟨_, rfl, HS.pick [2] (by decide) (by rfl)⟩
/-! ### impl_textsOk_1: function 180 -/
def impl_textsOk_1.f (a0 : ByteArray) : Option (Bool) := (some (decide (400 < (a0.size : Int))))
set_option maxHeartbeats 16000000 in
theorem impl_textsOk_1.calls {a0 : ByteArray} {r : Bool} {w : World} (h : impl_textsOk_1.f a0 = some r) :
    Calls Try.prog 180 #[.string a0] w (fun e w' => e = .returned (.bool r) ∧ Hp noFP w w' []) := by
 have HS := Hp.start w
 have H := Aside0.mk h
 clear h
 unfold impl_textsOk_1.f at H
 go_enter Try.func180, Try.ntmps180
 obtain rfl := zsome H
 go_wp2
 go_ret
 exact ⟨rfl, HS.pick [] (by decide) (by rfl)⟩
/-! ### slices_IndexFunc_string_string_0: function 184 -/
def slices_IndexFunc_string_string_0.l0 : Nat → Int → (List ByteArray) → Option (Int)
  | 0, _, _ => none
  | k + 1, x4, a0 => (if x4 < (a0.length : Int) then (if 0 ≤ x4 then (if x4 < (a0.length : Int) then ((impl_textsOk_1.f (rdOf ByteArray.empty a0 x4)).bind fun t10 => (if t10 = true then (some x4) else (slices_IndexFunc_string_string_0.l0 k (wrap64 (x4 + 1)) a0))) else none) else none) else (some (-1)))
def slices_IndexFunc_string_string_0.f (k : Nat) (a0 : (List ByteArray)) : Option (Int) := (slices_IndexFunc_string_string_0.l0 k 0 a0)
set_option maxHeartbeats 16000000 in
theorem slices_IndexFunc_string_string_0.calls {k : Nat} {a0 : (List ByteArray)} {Ap0 : Option Addr} {np0 cp0 : Nat} {r : Int} {w : World} (h : slices_IndexFunc_string_string_0.f k a0 = some r) (gp0 : Kd.string.C w Ap0 np0 a0) (lp0 : np0 ≤ cp0) :
    Calls Try.prog 184 #[.slice Ap0 np0 cp0, .func (.func 180) #[] #[]] w (fun e w' => e = .returned (.int .i64 r) ∧ Hp noFP w w' []) := by
 obtain rfl := C_len gp0
 have HS := Hp.start w
 have H := Aside0.mk h
 clear h
 unfold slices_IndexFunc_string_string_0.f at H
 go_enter Try.func184, Try.ntmps184
 go_wp2
 go_loopg [8] k (fun kq v_8 w' => ∃ (x4 : Int), v_8 = .int .i64 x4 ∧ Aside0 (slices_IndexFunc_string_string_0.l0 kq x4 a0 = some r) ∧ Aside0 (kq ≤ k) ∧ Hp noFP w w' [])
 case atStart => exact ⟨_, rfl, H, ⟨Nat.le_refl _⟩, HS⟩
 case round =>
  clear HS H; (try clear F)
  obtain ⟨x4, rfl, H, HKk3, HS⟩ := hrel
  cases gk with
  | zero => exact absurd H.out (by simp [slices_IndexFunc_string_string_0.l0])
  | succ k3 =>
   simp only [slices_IndexFunc_string_string_0.l0] at H
   by_cases c6 : x4 < (a0.length : Int)
   · replace H := zpos c6 H
     replace c6 := eq_true c6
     by_cases c7 : 0 ≤ x4
     case neg => exact zno c7 H
     replace H := zpos c7 H
     replace c7 := eq_true c7
     by_cases c8 : x4 < (a0.length : Int)
     case neg => exact zno c8 H
     replace H := zpos c8 H
     replace c8 := eq_true c8
     obtain ⟨ad9, rfl, e9_0⟩ := Kd.at_string gp0 x4 (of_eq_true c7) (of_eq_true c8)
     have e9_0_9 := (HS.keepc e9_0)
     replace H := zbind H; obtain ⟨t10, ht10, H⟩ := H
     go_upto_if 16 with (first | ((with_reducible refine gate_dst (N := 16) rfl ?_); refine ev_callv rfl Try.func180 (by kernel_rfl) rfl #[.string (rdOf ByteArray.empty a0 x4)] #[.string (rdOf ByteArray.empty a0 x4)] rfl rfl (by simp only [List.map_toArray, List.map_cons, List.map_nil]; rfl) (by first | rfl | simp) ?_; refine (impl_textsOk_1.calls ht10.out).mono ?_; rintro _ wt10 ⟨rfl, HQ⟩; refine ⟨_, rfl, ?_⟩; replace HS := HS.call HQ; clear HQ; (try clear F); replace HS : Hp noFP w _ [] := HS))
     by_cases c12 : t10 = true
     · replace H := zpos c12 H
       subst c12
       (try simp only [decide_true, decide_false, Bool.not_true, Bool.not_false, if_true, Bool.false_eq_true, if_false])
       obtain rfl := zsome H
       go_wp2
       go_ret
       exact ⟨rfl, HS.pick [] (by decide) (by rfl)⟩
     · replace H := zneg c12 H
       replace c12 := eq_false_of_ne_true c12
       subst c12
       (try simp only [decide_true, decide_false, Bool.not_true, Bool.not_false, if_true, Bool.false_eq_true, if_false])
       go_wp2
       go_roundg k3
       case measure => have := HKk3.out; omega
       case rel => exact ⟨_, rfl, H, ⟨by have := HKk3.out; omega⟩, HS.pick [] (by decide) (by rfl)⟩
   · replace H := zneg c6 H
     replace c6 := eq_false c6
     obtain rfl := zsome H
     go_wp2
     go_ret
     exact ⟨rfl, HS.pick [] (by decide) (by rfl)⟩
/-! ### slices_ContainsFunc_string_string_0: function 179 -/
def slices_ContainsFunc_string_string_0.f (k : Nat) (a0 : (List ByteArray)) : Option (Bool) := ((slices_IndexFunc_string_string_0.f k a0).bind fun t1 => (some (decide (0 ≤ t1))))
set_option maxHeartbeats 16000000 in
theorem slices_ContainsFunc_string_string_0.calls {k : Nat} {a0 : (List ByteArray)} {Ap0 : Option Addr} {np0 cp0 : Nat} {r : Bool} {w : World} (h : slices_ContainsFunc_string_string_0.f k a0 = some r) (gp0 : Kd.string.C w Ap0 np0 a0) (lp0 : np0 ≤ cp0) :
    Calls Try.prog 179 #[.slice Ap0 np0 cp0, .func (.func 180) #[] #[]] w (fun e w' => e = .returned (.bool r) ∧ Hp noFP w w' []) := by
 obtain rfl := C_len gp0
 have HS := Hp.start w
 have H := Aside0.mk h
 clear h
 unfold slices_ContainsFunc_string_string_0.f at H
 go_enter Try.func179, Try.ntmps179
 replace H := zbind H; obtain ⟨t1, ht1, H⟩ := H
 obtain rfl := zsome H
 go_wp2_with (first | ((with_reducible refine gate_dst (N := 7) rfl ?_); refine ev_call rfl Try.func184 (by kernel_rfl) rfl #[.slice Ap0 a0.length cp0, .func (.func 180) #[] #[]] rfl (by simp only [List.map_toArray, List.map_cons, List.map_nil]; rfl) ?_; refine (slices_IndexFunc_string_string_0.calls ht1.out (HS.ro gp0) lp0).mono ?_; rintro _ wt1 ⟨rfl, HQ⟩; refine ⟨_, rfl, ?_⟩; replace HS := HS.call HQ; clear HQ; (try clear F); replace HS : Hp noFP w _ [] := HS))
 go_ret
 exact ⟨rfl, HS.pick [] (by decide) (by rfl)⟩
/-! ### impl_textsOk: function 168 -/
def impl_textsOk.f (k : Nat) (a0 : (List ByteArray)) (a1 : Int) : Option (Bool) := (if (a0.length : Int) ≤ a1 then ((slices_ContainsFunc_string_string_0.f k a0).bind fun t2 => (some (!t2))) else (some false))
set_option maxHeartbeats 16000000 in
theorem impl_textsOk.calls {k : Nat} {a0 : (List ByteArray)} {a1 : Int} {Ap0 : Option Addr} {np0 cp0 : Nat} {r : Bool} {w : World} (h : impl_textsOk.f k a0 a1 = some r) (gp0 : Kd.string.C w Ap0 np0 a0) (lp0 : np0 ≤ cp0) :
    Calls Try.prog 168 #[.slice Ap0 np0 cp0, .int .i64 a1] w (fun e w' => e = .returned (.bool r) ∧ Hp noFP w w' []) := by
 obtain rfl := C_len gp0
 have HS := Hp.start w
 have H := Aside0.mk h
 clear h
 unfold impl_textsOk.f at H
 go_enter Try.func168, Try.ntmps168
 by_cases c1 : (a0.length : Int) ≤ a1
 · replace H := zpos c1 H
   replace c1 := eq_true c1
   replace H := zbind H; obtain ⟨t2, ht2, H⟩ := H
   obtain rfl := zsome H
   go_wp2_with (first | ((with_reducible refine gate_dst (N := 11) rfl ?_); refine gate_guard (by rfl) ?_; refine ev_call rfl Try.func179 (by kernel_rfl) rfl #[.slice Ap0 a0.length cp0, .func (.func 180) #[] #[]] rfl (by simp only [List.map_toArray, List.map_cons, List.map_nil]; rfl) ?_; refine (slices_ContainsFunc_string_string_0.calls ht2.out (HS.ro gp0) lp0).mono ?_; rintro _ wt2 ⟨rfl, HQ⟩; refine ⟨_, rfl, ?_⟩; replace HS := HS.call HQ; clear HQ; (try clear F); replace HS : Hp noFP w _ [] := HS))
   go_ret
   exact ⟨rfl, HS.pick [] (by decide) (by rfl)⟩
 · replace H := zneg c1 H
   replace c1 := eq_false c1
   obtain rfl := zsome H
   go_wp2
   go_ret
   exact ⟨rfl, HS.pick [] (by decide) (by rfl)⟩
end Go.Proofs.Ytdcjcanobiohnaa.F
