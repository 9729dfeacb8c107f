/- Functions of the program and of the law, and that their calls do what is written here. -/
import Derived.Test.YtoaoncnbimcdgaaDoorZgFnExactReadCertn
namespace Go.Proofs.YtoaoncnbimcdgaaDoor.F
open Go.RowKit Go.Proofs.YtoaoncnbimcdgaaDoorW.PrintWords Go.Proofs.YtoaoncnbimcdgaaDoorW.PrintLast Go.Proofs.YtoaoncnbimcdgaaDoorW.PrintMore Go.Proofs.YtoaoncnbimcdgaaDoor.Z
attribute [local go_sem] max2_int min2_int max_two min_two max_three min_three max_four min_four
set_option linter.unusedVariables false
set_option linter.unusedSimpArgs false
set_option maxRecDepth 100000
/-! ### impl_opener_nums_0: function 62 -/
mutual
def impl_opener_nums_0.l0 : Nat → (List Int) → Int → Bool → S65 → Option ((List Int) × S86)
  | 0, _, _, _, _ => none
  | k + 1, l42, x44, x45, a1 => (if x44 < (a1.f2.length : Int) then (if 0 ≤ x44 then (if x44 < (a1.f2.length : Int) then ((impl_opener_num_0.f k (⟨x45⟩ : S86) (rd_T65 a1.f2 x44)).bind fun t55 => (if l42.length + 1 ≤ 17592186044416 then (lets (l42 ++ ([t55.1] : List Int)) fun y60 => (impl_opener_nums_0.l0 k y60 (wrap64 (x44 + 1)) t55.2.f0 a1)) else none)) else none) else none) else (some (l42, (⟨x45⟩ : S86))))
def impl_opener_nums_0.l1 : Nat → (List Int) → Int → Bool → (Bool × Nat) × S86 → Option ((List Int) × S86)
  | 0, _, _, _, _ => none
  | k + 1, l97, x99, x100, t3 => (if x99 < (t3.1.2 : Int) then (if 0 ≤ x99 then (if x99 < (t3.1.2 : Int) then ((impl_opener_num_0.f k (⟨x100⟩ : S86) (⟨0, (⟨#[]⟩ : ByteArray), ([] : List S65)⟩ : S65)).bind fun t110 => (if l97.length + 1 ≤ 17592186044416 then (lets (l97 ++ ([t110.1] : List Int)) fun y115 => (impl_opener_nums_0.l1 k y115 (wrap64 (x99 + 1)) t110.2.f0 t3)) else none)) else none) else none) else (some (l97, (⟨x100⟩ : S86))))
end
def impl_opener_nums_0.f (k : Nat) (a0 : S86) (a1 : S65) : Option ((List Int) × S86) := ((impl_opener_list_0.f a0 a1 (-1)).bind fun t3 => (if t3.1.1 = true then (impl_opener_nums_0.l0 k [] 0 t3.2.f0 a1) else (impl_opener_nums_0.l1 k [] 0 t3.2.f0 t3)))
set_option maxHeartbeats 16000000 in
theorem impl_opener_nums_0.calls {k : Nat} {a0 : S86} {a1 : S65} {A : FP} {p0 : Nat} {Ap1 : Option Addr} {np1 cp1 : Nat} {wv : World} {r1 : (List Int)} {r2 : S86} {w : World} (h : impl_opener_nums_0.f k a0 a1 = some (r1, r2)) (gp1 : k65.C wv Ap1 np1 a1.f2) (lp1 : np1 ≤ cp1) (hV : View A w wv) (HS : Hp A w w [.box p0 [.bool a0.f0] 86]) :
    Calls Tryd.prog 62 #[.pointer (some ⟨p0, 0, none⟩), .agg #[.int .i64 a1.f0, .string a1.f1, .slice Ap1 np1 cp1]] w (fun e w' => ∃ v0_ : Value, e = .returned (v0_) ∧ Hp A w w' [.box p0 [.bool r2.f0] 86, .own (Zd.slice 3 (Zd.int .i64)) r1 [v0_]]) := by
 obtain rfl := C_len gp1
 have H := Aside0.mk h
 clear h
 unfold impl_opener_nums_0.f at H
 go_enter Tryd.func62, Tryd.ntmps62
 replace H := zbind H; obtain ⟨t3, ht3, H⟩ := H
 by_cases c6 : t3.1.1 = true
 case neg =>
  replace H := zneg c6 H
  replace c6 := eq_false_of_ne_true c6
  go_wp2_with (first | ((with_reducible refine gate_dst (N := 3) rfl ?_); refine ev_box rfl HS (by first | (go_simp; done) | (go_simp; rfl)) rfl ?_; clear HS; (try clear F); intro g3 w3 HS; (try simp only [hpn, hpm] at HS); have F := HS.boxes; simp only [bxn] at F) | ((with_reducible refine gate_dst (N := 10) rfl ?_); refine HS.lend [0] (by decide) [.box p0 [.bool a0.f0] 86] rfl (fun A' HL HD HA HB => ?_); refine ev_call rfl Tryd.func53 (by kernel_rfl) rfl #[.pointer (some ⟨p0, 0, none⟩), .agg #[.int .i64 a1.f0, .string a1.f1, .slice Ap1 a1.f2.length cp1], .int .i64 (-1)] rfl (by simp only [mpn]; rfl) ?_; refine (impl_opener_list_0.calls ht3.out gp1 lp1 (hV.lend HS HL) HA).mono ?_; rintro _ wt3 ⟨v4, rfl, HQ⟩; refine ⟨_, rfl, ?_⟩; replace HS := HB _ _ HQ (Nat.le_of_ble_eq_true rfl); clear HQ HA HB HL HD; (try simp only [hpn, hpm] at HS); (try clear F); obtain ⟨B4, d4, rfl, m4⟩ := HS.formn t3.1.2 2 rfl (by first | rfl | simp); (try simp only [cond_true, cond_false]); (try simp only [c6, cond_true, cond_false]); (try simp only [hpn, hpm] at HS); have F := HS.boxes; simp only [bxn] at F))
  replace HS := HS.nil 3 (Zd.int .i64)
  go_loopg [5, 12] k (fun kq v_5 v_12 w' => ∃ (l97 : List Int) (v98 : Value) (x99 : Int) (x100 : Bool), v_5 = v98 ∧ v_12 = .int .i64 x99 ∧ Aside0 (impl_opener_nums_0.l1 kq l97 x99 x100 t3 = some (r1, r2)) ∧ Aside0 (kq ≤ k) ∧ Hp A w w' [.box p0 [.bool x100] 86, .box g3 [.int .i64 a1.f0, .string a1.f1, .slice Ap1 a1.f2.length cp1] 65, .own (Zd.slice 65 q65) (List.replicate t3.1.2 z65) [.slice B4 t3.1.2 d4], .own (Zd.slice 3 (Zd.int .i64)) l97 [v98]])
  case atStart => exact ⟨_, _, _, _, rfl, rfl, H, ⟨Nat.le_refl _⟩, HS⟩
  case round =>
   clear HS H; (try clear F)
   obtain ⟨l97, v98, x99, x100, rfl, rfl, H, HKk96, HS⟩ := hrel
   obtain ⟨B98, d98, rfl, m98⟩ := HS.form 3 rfl
   have F := HS.boxes; simp only [bxn] at F
   cases gk with
   | zero => exact absurd H.out (by simp [impl_opener_nums_0.l1])
   | succ k96 =>
    simp only [impl_opener_nums_0.l1] at H
    by_cases c102 : x99 < (t3.1.2 : Int)
    case neg =>
     replace H := zneg c102 H
     replace c102 := eq_false c102
     obtain ⟨rfl, rfl⟩ := zsome2 H
     go_wp2
     exact bodyPost_ret (results_single rfl (.tmp .nil)) rfl ⟨_, rfl, HS.pick [0, 3] (by decide) (by rfl)⟩
    replace H := zpos c102 H
    replace c102 := eq_true c102
    by_cases c103 : 0 ≤ x99
    case neg => exact zno c103 H
    replace H := zpos c103 H
    replace c103 := eq_true c103
    by_cases c104 : x99 < (t3.1.2 : Int)
    case neg => exact zno c104 H
    replace H := zpos c104 H
    replace c104 := eq_true c104
    obtain ⟨ad105, B105_2, d105_2, rfl, e105_0, e105_1, e105_2, m105_2, y105_2⟩ := at_T65 (HS.rd 2 rfl) x99 (of_eq_true c103) (of_eq_true c104)
    simp only [rdrep_T65] at e105_0 e105_1 e105_2; simp only [z65, List.length_nil] at e105_0 e105_1 e105_2
    replace H := zbind H; obtain ⟨t110, ht110, H⟩ := H
    by_cases c114 : l97.length + 1 ≤ 17592186044416
    case neg => exact zno c114 H
    replace H := zpos c114 H
    replace c114 := eq_true c114
    replace H := zlets H; obtain ⟨y115, e_y115, H⟩ := H
    go_wp2_with (first | ((with_reducible refine gate_dst (N := 7) rfl ?_); refine ev_box rfl HS (by first | (go_simp; done) | (go_simp; rfl)) rfl ?_; clear HS; (try clear F); intro g7 w7 HS; (try simp only [hpn, hpm] at HS); have F := HS.boxes; simp only [bxn] at F) | ((with_reducible refine gate_store (p := 7) rfl ?_); refine ev_store rfl 4 0 HS (seg := [.int .i64 0, .string (⟨#[]⟩ : ByteArray), .slice B105_2 0 d105_2]) rfl rfl rfl rfl rfl rfl (by kernel_rfl) (by simp [wrt]) (by simp [Value.oneCell']) ?_; clear HS; (try clear F); intro w108 HS; (try simp only [hpn, hpm] at HS); have F := HS.boxes; simp only [bxn] at F) | ((with_reducible refine gate_dst (N := 19) rfl ?_); refine HS.lend [0] (by decide) [.box p0 [.bool x100] 86] rfl (fun A' HL HD HA HB => ?_); refine ev_call rfl Tryd.func55 (by kernel_rfl) rfl #[.pointer (some ⟨p0, 0, none⟩), .agg #[.int .i64 0, .string (⟨#[]⟩ : ByteArray), .slice B105_2 0 d105_2]] rfl (by simp only [mpn]; rfl) ?_; refine (impl_opener_num_0.calls ht110.out (C_zero _) (Nat.zero_le _) (hV.lend HS HL) HA).mono ?_; rintro _ wt110 ⟨rfl, HQ⟩; refine ⟨_, rfl, ?_⟩; replace HS := HB _ _ HQ (Nat.le_of_ble_eq_true rfl); clear HQ HA HB HL HD; (try simp only [hpn, hpm] at HS); (try clear F); (try simp only [hpn, hpm] at HS); have F := HS.boxes; simp only [bxn] at F) | ((with_reducible refine gate_dst (N := 20) rfl ?_); refine ev_lit rfl (Zd.int .i64) [] ([t110.1] : List Int) ([.int .i64 t110.1] ++ []) HS (by first | (go_simp; done) | (go_simp; rfl)) rfl rfl (Nat.le_of_ble_eq_true rfl) (MadeL.cons (js1 := []) (c := [.int .i64 t110.1]) rfl (made_flat (fun _ => rfl)) MadeL.nil (by decide)) ?_; clear HS; (try clear F); intro v112 w112 HS; obtain ⟨B112, d112, rfl, m112⟩ := HS.formn 1 5 rfl rfl; (try simp only [hpn, hpm] at HS); have F := HS.boxes; simp only [bxn] at F) | ((with_reducible refine gate_dst (N := 21) rfl ?_); refine ev_append rfl (Zd.int .i64) 3 5 HS rfl rfl (by decide) rfl rfl rfl Tryd.underlying22 info3 rfl (by decide) (by decide) (by have := of_eq_true c114; first | omega | (simp only [List.length_cons, List.length_nil, List.length_append, Nat.zero_add] at this ⊢; omega)) ?_; clear HS; (try clear F); intro v115 w115 HS; rw [← e_y115.out] at HS; obtain ⟨B115, d115, rfl, m115⟩ := HS.form 6 rfl; (try simp only [hpn, hpm] at HS); have F := HS.boxes; simp only [bxn] at F))
    go_roundg k96
    case measure => have := HKk96.out; omega
    case rel => exact ⟨_, _, _, _, rfl, rfl, H, ⟨by have := HKk96.out; omega⟩, HS.pick [0, 1, 2, 6] (by decide) (by rfl)⟩
 replace H := zpos c6 H
 go_wp2_with (first | ((with_reducible refine gate_dst (N := 3) rfl ?_); refine ev_box rfl HS (by first | (go_simp; done) | (go_simp; rfl)) rfl ?_; clear HS; (try clear F); intro g3 w3 HS; (try simp only [hpn, hpm] at HS); have F := HS.boxes; simp only [bxn] at F) | ((with_reducible refine gate_dst (N := 10) rfl ?_); refine HS.lend [0] (by decide) [.box p0 [.bool a0.f0] 86] rfl (fun A' HL HD HA HB => ?_); refine ev_call rfl Tryd.func53 (by kernel_rfl) rfl #[.pointer (some ⟨p0, 0, none⟩), .agg #[.int .i64 a1.f0, .string a1.f1, .slice Ap1 a1.f2.length cp1], .int .i64 (-1)] rfl (by simp only [mpn]; rfl) ?_; refine (impl_opener_list_0.calls ht3.out gp1 lp1 (hV.lend HS HL) HA).mono ?_; rintro _ wt3 ⟨v4, rfl, HQ⟩; refine ⟨_, rfl, ?_⟩; replace HS := HB _ _ HQ (Nat.le_of_ble_eq_true rfl); clear HQ HA HB HL HD; (try simp only [hpn, hpm] at HS); (try clear F); obtain ⟨B4, d4, rfl, m4⟩ := HS.formn t3.1.2 2 rfl (by first | rfl | simp); (try simp only [cond_true, cond_false]); (try simp only [c6, cond_true, cond_false]); (try simp only [hpn, hpm] at HS); have F := HS.boxes; simp only [bxn] at F))
 replace HS := HS.nil 3 (Zd.int .i64)
 go_loopg [5, 12] k (fun kq v_5 v_12 w' => ∃ (l42 : List Int) (v43 : Value) (x44 : Int) (x45 : Bool), v_5 = v43 ∧ v_12 = .int .i64 x44 ∧ Aside0 (impl_opener_nums_0.l0 kq l42 x44 x45 a1 = some (r1, r2)) ∧ Aside0 (kq ≤ k) ∧ Hp A w w' [.box p0 [.bool x45] 86, .box g3 [.int .i64 a1.f0, .string a1.f1, .slice Ap1 a1.f2.length cp1] 65, .own (Zd.slice 65 q65) (List.replicate t3.1.2 z65) [.slice B4 t3.1.2 d4], .own (Zd.slice 3 (Zd.int .i64)) l42 [v43]])
 case atStart => exact ⟨_, _, _, _, rfl, rfl, H, ⟨Nat.le_refl _⟩, HS⟩
 case round =>
  clear HS H; (try clear F)
  obtain ⟨l42, v43, x44, x45, rfl, rfl, H, HKk41, HS⟩ := hrel
  obtain ⟨B43, d43, rfl, m43⟩ := HS.form 3 rfl
  have F := HS.boxes; simp only [bxn] at F
  cases gk with
  | zero => exact absurd H.out (by simp [impl_opener_nums_0.l0])
  | succ k41 =>
   simp only [impl_opener_nums_0.l0] at H
   by_cases c47 : x44 < (a1.f2.length : Int)
   case neg =>
    replace H := zneg c47 H
    replace c47 := eq_false c47
    obtain ⟨rfl, rfl⟩ := zsome2 H
    go_wp2
    exact bodyPost_ret (results_single rfl (.tmp .nil)) rfl ⟨_, rfl, HS.pick [0, 3] (by decide) (by rfl)⟩
   replace H := zpos c47 H
   replace c47 := eq_true c47
   by_cases c48 : 0 ≤ x44
   case neg => exact zno c48 H
   replace H := zpos c48 H
   replace c48 := eq_true c48
   by_cases c49 : x44 < (a1.f2.length : Int)
   case neg => exact zno c49 H
   replace H := zpos c49 H
   replace c49 := eq_true c49
   obtain ⟨ad50, B50_2, d50_2, rfl, e50_0, e50_1, e50_2, m50_2, y50_2⟩ := at_T65 gp1 x44 (of_eq_true c48) (of_eq_true c49)
   have e50_0_50 := (hV.keepc HS e50_0)
   have e50_1_50 := (hV.keepc HS e50_1)
   have e50_2_50 := (hV.keepc HS e50_2)
   replace H := zbind H; obtain ⟨t55, ht55, H⟩ := H
   by_cases c59 : l42.length + 1 ≤ 17592186044416
   case neg => exact zno c59 H
   replace H := zpos c59 H
   replace c59 := eq_true c59
   replace H := zlets H; obtain ⟨y60, e_y60, H⟩ := H
   go_wp2_with (first | ((with_reducible refine gate_dst (N := 7) rfl ?_); refine ev_box rfl HS (by first | (go_simp; done) | (go_simp; rfl)) rfl ?_; clear HS; (try clear F); intro g7 w7 HS; (try simp only [hpn, hpm] at HS); have F := HS.boxes; simp only [bxn] at F) | ((with_reducible refine gate_store (p := 7) rfl ?_); refine ev_store rfl 4 0 HS (seg := [.int .i64 ((rd_T65 a1.f2 x44).f0), .string ((rd_T65 a1.f2 x44).f1), .slice B50_2 (rd_T65 a1.f2 x44).f2.length d50_2]) rfl rfl rfl rfl rfl rfl (by kernel_rfl) (by simp [wrt]) (by simp [Value.oneCell']) ?_; clear HS; (try clear F); intro w53 HS; (try simp only [hpn, hpm] at HS); have F := HS.boxes; simp only [bxn] at F) | ((with_reducible refine gate_dst (N := 19) rfl ?_); refine HS.lend [0] (by decide) [.box p0 [.bool x45] 86] rfl (fun A' HL HD HA HB => ?_); refine ev_call rfl Tryd.func55 (by kernel_rfl) rfl #[.pointer (some ⟨p0, 0, none⟩), .agg #[.int .i64 ((rd_T65 a1.f2 x44).f0), .string ((rd_T65 a1.f2 x44).f1), .slice B50_2 (rd_T65 a1.f2 x44).f2.length d50_2]] rfl (by simp only [mpn]; rfl) ?_; refine (impl_opener_num_0.calls ht55.out y50_2 m50_2 (hV.lend HS HL) HA).mono ?_; rintro _ wt55 ⟨rfl, HQ⟩; refine ⟨_, rfl, ?_⟩; replace HS := HB _ _ HQ (Nat.le_of_ble_eq_true rfl); clear HQ HA HB HL HD; (try simp only [hpn, hpm] at HS); (try clear F); (try simp only [hpn, hpm] at HS); have F := HS.boxes; simp only [bxn] at F) | ((with_reducible refine gate_dst (N := 20) rfl ?_); refine ev_lit rfl (Zd.int .i64) [] ([t55.1] : List Int) ([.int .i64 t55.1] ++ []) HS (by first | (go_simp; done) | (go_simp; rfl)) rfl rfl (Nat.le_of_ble_eq_true rfl) (MadeL.cons (js1 := []) (c := [.int .i64 t55.1]) rfl (made_flat (fun _ => rfl)) MadeL.nil (by decide)) ?_; clear HS; (try clear F); intro v57 w57 HS; obtain ⟨B57, d57, rfl, m57⟩ := HS.formn 1 5 rfl rfl; (try simp only [hpn, hpm] at HS); have F := HS.boxes; simp only [bxn] at F) | ((with_reducible refine gate_dst (N := 21) rfl ?_); refine ev_append rfl (Zd.int .i64) 3 5 HS rfl rfl (by decide) rfl rfl rfl Tryd.underlying22 info3 rfl (by decide) (by decide) (by have := of_eq_true c59; first | omega | (simp only [List.length_cons, List.length_nil, List.length_append, Nat.zero_add] at this ⊢; omega)) ?_; clear HS; (try clear F); intro v60 w60 HS; rw [← e_y60.out] at HS; obtain ⟨B60, d60, rfl, m60⟩ := HS.form 6 rfl; (try simp only [hpn, hpm] at HS); have F := HS.boxes; simp only [bxn] at F))
   go_roundg k41
   case measure => have := HKk41.out; omega
   case rel => exact ⟨_, _, _, _, rfl, rfl, H, ⟨by have := HKk41.out; omega⟩, HS.pick [0, 1, 2, 6] (by decide) (by rfl)⟩
/-! ### impl_opener_texts_0: function 63 -/
mutual
def impl_opener_texts_0.l0 : Nat → (List ByteArray) → Int → Bool → S65 → Int → Option ((List ByteArray) × S86)
  | 0, _, _, _, _, _ => none
  | k + 1, l42, x44, x45, a1, a2 => (if x44 < (a1.f2.length : Int) then (if 0 ≤ x44 then (if x44 < (a1.f2.length : Int) then ((impl_opener_text_0.f (⟨x45⟩ : S86) (rd_T65 a1.f2 x44) a2).bind fun t55 => (if l42.length + 1 ≤ 8796093022208 then (lets (l42 ++ ([t55.1] : List ByteArray)) fun y60 => (impl_opener_texts_0.l0 k y60 (wrap64 (x44 + 1)) t55.2.f0 a1 a2)) else none)) else none) else none) else (some (l42, (⟨x45⟩ : S86))))
def impl_opener_texts_0.l1 : Nat → (List ByteArray) → Int → Bool → Int → (Bool × Nat) × S86 → Option ((List ByteArray) × S86)
  | 0, _, _, _, _, _ => none
  | k + 1, l97, x99, x100, a2, t3 => (if x99 < (t3.1.2 : Int) then (if 0 ≤ x99 then (if x99 < (t3.1.2 : Int) then ((impl_opener_text_0.f (⟨x100⟩ : S86) (⟨0, (⟨#[]⟩ : ByteArray), ([] : List S65)⟩ : S65) a2).bind fun t110 => (if l97.length + 1 ≤ 8796093022208 then (lets (l97 ++ ([t110.1] : List ByteArray)) fun y115 => (impl_opener_texts_0.l1 k y115 (wrap64 (x99 + 1)) t110.2.f0 a2 t3)) else none)) else none) else none) else (some (l97, (⟨x100⟩ : S86))))
end
def impl_opener_texts_0.f (k : Nat) (a0 : S86) (a1 : S65) (a2 : Int) : Option ((List ByteArray) × S86) := ((impl_opener_list_0.f a0 a1 (-1)).bind fun t3 => (if t3.1.1 = true then (impl_opener_texts_0.l0 k [] 0 t3.2.f0 a1 a2) else (impl_opener_texts_0.l1 k [] 0 t3.2.f0 a2 t3)))
set_option maxHeartbeats 16000000 in
theorem impl_opener_texts_0.calls {k : Nat} {a0 : S86} {a1 : S65} {a2 : Int} {A : FP} {p0 : Nat} {Ap1 : Option Addr} {np1 cp1 : Nat} {wv : World} {r1 : (List ByteArray)} {r2 : S86} {w : World} (h : impl_opener_texts_0.f k a0 a1 a2 = some (r1, r2)) (gp1 : k65.C wv Ap1 np1 a1.f2) (lp1 : np1 ≤ cp1) (hV : View A w wv) (HS : Hp A w w [.box p0 [.bool a0.f0] 86]) :
    Calls Tryd.prog 63 #[.pointer (some ⟨p0, 0, none⟩), .agg #[.int .i64 a1.f0, .string a1.f1, .slice Ap1 np1 cp1], .int .i64 a2] w (fun e w' => ∃ v0_ : Value, e = .returned (v0_) ∧ Hp A w w' [.box p0 [.bool r2.f0] 86, .own (Zd.slice 9 Zd.string) r1 [v0_]]) := by
 obtain rfl := C_len gp1
 have H := Aside0.mk h
 clear h
 unfold impl_opener_texts_0.f at H
 go_enter Tryd.func63, Tryd.ntmps63
 replace H := zbind H; obtain ⟨t3, ht3, H⟩ := H
 by_cases c6 : t3.1.1 = true
 case neg =>
  replace H := zneg c6 H
  replace c6 := eq_false_of_ne_true c6
  go_wp2_with (first | ((with_reducible refine gate_dst (N := 4) rfl ?_); refine ev_box rfl HS (by first | (go_simp; done) | (go_simp; rfl)) rfl ?_; clear HS; (try clear F); intro g4 w4 HS; (try simp only [hpn, hpm] at HS); have F := HS.boxes; simp only [bxn] at F) | ((with_reducible refine gate_dst (N := 12) rfl ?_); refine HS.lend [0] (by decide) [.box p0 [.bool a0.f0] 86] rfl (fun A' HL HD HA HB => ?_); refine ev_call rfl Tryd.func53 (by kernel_rfl) rfl #[.pointer (some ⟨p0, 0, none⟩), .agg #[.int .i64 a1.f0, .string a1.f1, .slice Ap1 a1.f2.length cp1], .int .i64 (-1)] rfl (by simp only [mpn]; rfl) ?_; refine (impl_opener_list_0.calls ht3.out gp1 lp1 (hV.lend HS HL) HA).mono ?_; rintro _ wt3 ⟨v4, rfl, HQ⟩; refine ⟨_, rfl, ?_⟩; replace HS := HB _ _ HQ (Nat.le_of_ble_eq_true rfl); clear HQ HA HB HL HD; (try simp only [hpn, hpm] at HS); (try clear F); obtain ⟨B4, d4, rfl, m4⟩ := HS.formn t3.1.2 2 rfl (by first | rfl | simp); (try simp only [cond_true, cond_false]); (try simp only [c6, cond_true, cond_false]); (try simp only [hpn, hpm] at HS); have F := HS.boxes; simp only [bxn] at F))
  replace HS := HS.nil 9 Zd.string
  go_loopg [7, 14] k (fun kq v_7 v_14 w' => ∃ (l97 : List ByteArray) (v98 : Value) (x99 : Int) (x100 : Bool), v_7 = v98 ∧ v_14 = .int .i64 x99 ∧ Aside0 (impl_opener_texts_0.l1 kq l97 x99 x100 a2 t3 = some (r1, r2)) ∧ Aside0 (kq ≤ k) ∧ Hp A w w' [.box p0 [.bool x100] 86, .box g4 [.int .i64 a1.f0, .string a1.f1, .slice Ap1 a1.f2.length cp1] 65, .own (Zd.slice 65 q65) (List.replicate t3.1.2 z65) [.slice B4 t3.1.2 d4], .own (Zd.slice 9 Zd.string) l97 [v98]])
  case atStart => exact ⟨_, _, _, _, rfl, rfl, H, ⟨Nat.le_refl _⟩, HS⟩
  case round =>
   clear HS H; (try clear F)
   obtain ⟨l97, v98, x99, x100, rfl, rfl, H, HKk96, HS⟩ := hrel
   obtain ⟨B98, d98, rfl, m98⟩ := HS.form 3 rfl
   have F := HS.boxes; simp only [bxn] at F
   cases gk with
   | zero => exact absurd H.out (by simp [impl_opener_texts_0.l1])
   | succ k96 =>
    simp only [impl_opener_texts_0.l1] at H
    by_cases c102 : x99 < (t3.1.2 : Int)
    case neg =>
     replace H := zneg c102 H
     replace c102 := eq_false c102
     obtain ⟨rfl, rfl⟩ := zsome2 H
     go_wp2
     exact bodyPost_ret (results_single rfl (.tmp .nil)) rfl ⟨_, rfl, HS.pick [0, 3] (by decide) (by rfl)⟩
    replace H := zpos c102 H
    replace c102 := eq_true c102
    by_cases c103 : 0 ≤ x99
    case neg => exact zno c103 H
    replace H := zpos c103 H
    replace c103 := eq_true c103
    by_cases c104 : x99 < (t3.1.2 : Int)
    case neg => exact zno c104 H
    replace H := zpos c104 H
    replace c104 := eq_true c104
    obtain ⟨ad105, B105_2, d105_2, rfl, e105_0, e105_1, e105_2, m105_2, y105_2⟩ := at_T65 (HS.rd 2 rfl) x99 (of_eq_true c103) (of_eq_true c104)
    simp only [rdrep_T65] at e105_0 e105_1 e105_2; simp only [z65, List.length_nil] at e105_0 e105_1 e105_2
    replace H := zbind H; obtain ⟨t110, ht110, H⟩ := H
    by_cases c114 : l97.length + 1 ≤ 8796093022208
    case neg => exact zno c114 H
    replace H := zpos c114 H
    replace c114 := eq_true c114
    replace H := zlets H; obtain ⟨y115, e_y115, H⟩ := H
    go_wp2_with (first | ((with_reducible refine gate_dst (N := 9) rfl ?_); refine ev_box rfl HS (by first | (go_simp; done) | (go_simp; rfl)) rfl ?_; clear HS; (try clear F); intro g9 w9 HS; (try simp only [hpn, hpm] at HS); have F := HS.boxes; simp only [bxn] at F) | ((with_reducible refine gate_store (p := 9) rfl ?_); refine ev_store rfl 4 0 HS (seg := [.int .i64 0, .string (⟨#[]⟩ : ByteArray), .slice B105_2 0 d105_2]) rfl rfl rfl rfl rfl rfl (by kernel_rfl) (by simp [wrt]) (by simp [Value.oneCell']) ?_; clear HS; (try clear F); intro w108 HS; (try simp only [hpn, hpm] at HS); have F := HS.boxes; simp only [bxn] at F) | ((with_reducible refine gate_dst (N := 22) rfl ?_); refine HS.lend [0] (by decide) [.box p0 [.bool x100] 86] rfl (fun A' HL HD HA HB => ?_); refine ev_call rfl Tryd.func54 (by kernel_rfl) rfl #[.pointer (some ⟨p0, 0, none⟩), .agg #[.int .i64 0, .string (⟨#[]⟩ : ByteArray), .slice B105_2 0 d105_2], .int .i64 a2] rfl (by simp only [mpn]; rfl) ?_; refine (impl_opener_text_0.calls ht110.out (C_zero _) (Nat.zero_le _) (hV.lend HS HL) HA).mono ?_; rintro _ wt110 ⟨rfl, HQ⟩; refine ⟨_, rfl, ?_⟩; replace HS := HB _ _ HQ (Nat.le_of_ble_eq_true rfl); clear HQ HA HB HL HD; (try simp only [hpn, hpm] at HS); (try clear F); (try simp only [hpn, hpm] at HS); have F := HS.boxes; simp only [bxn] at F) | ((with_reducible refine gate_dst (N := 23) rfl ?_); refine ev_lit rfl Zd.string [] ([t110.1] : List ByteArray) ([.string t110.1] ++ []) HS (by first | (go_simp; done) | (go_simp; rfl)) rfl rfl (Nat.le_of_ble_eq_true rfl) (MadeL.cons (js1 := []) (c := [.string t110.1]) rfl (made_flat (fun _ => rfl)) MadeL.nil (by decide)) ?_; clear HS; (try clear F); intro v112 w112 HS; obtain ⟨B112, d112, rfl, m112⟩ := HS.formn 1 5 rfl rfl; (try simp only [hpn, hpm] at HS); have F := HS.boxes; simp only [bxn] at F) | ((with_reducible refine gate_dst (N := 24) rfl ?_); refine ev_append rfl Zd.string 3 5 HS rfl rfl (by decide) rfl rfl rfl Tryd.underlying23 info9 rfl (by decide) (by decide) (by have := of_eq_true c114; first | omega | (simp only [List.length_cons, List.length_nil, List.length_append, Nat.zero_add] at this ⊢; omega)) ?_; clear HS; (try clear F); intro v115 w115 HS; rw [← e_y115.out] at HS; obtain ⟨B115, d115, rfl, m115⟩ := HS.form 6 rfl; (try simp only [hpn, hpm] at HS); have F := HS.boxes; simp only [bxn] at F))
    go_roundg k96
    case measure => have := HKk96.out; omega
    case rel => exact ⟨_, _, _, _, rfl, rfl, H, ⟨by have := HKk96.out; omega⟩, HS.pick [0, 1, 2, 6] (by decide) (by rfl)⟩
 replace H := zpos c6 H
 go_wp2_with (first | ((with_reducible refine gate_dst (N := 4) rfl ?_); refine ev_box rfl HS (by first | (go_simp; done) | (go_simp; rfl)) rfl ?_; clear HS; (try clear F); intro g4 w4 HS; (try simp only [hpn, hpm] at HS); have F := HS.boxes; simp only [bxn] at F) | ((with_reducible refine gate_dst (N := 12) rfl ?_); refine HS.lend [0] (by decide) [.box p0 [.bool a0.f0] 86] rfl (fun A' HL HD HA HB => ?_); refine ev_call rfl Tryd.func53 (by kernel_rfl) rfl #[.pointer (some ⟨p0, 0, none⟩), .agg #[.int .i64 a1.f0, .string a1.f1, .slice Ap1 a1.f2.length cp1], .int .i64 (-1)] rfl (by simp only [mpn]; rfl) ?_; refine (impl_opener_list_0.calls ht3.out gp1 lp1 (hV.lend HS HL) HA).mono ?_; rintro _ wt3 ⟨v4, rfl, HQ⟩; refine ⟨_, rfl, ?_⟩; replace HS := HB _ _ HQ (Nat.le_of_ble_eq_true rfl); clear HQ HA HB HL HD; (try simp only [hpn, hpm] at HS); (try clear F); obtain ⟨B4, d4, rfl, m4⟩ := HS.formn t3.1.2 2 rfl (by first | rfl | simp); (try simp only [cond_true, cond_false]); (try simp only [c6, cond_true, cond_false]); (try simp only [hpn, hpm] at HS); have F := HS.boxes; simp only [bxn] at F))
 replace HS := HS.nil 9 Zd.string
 go_loopg [7, 14] k (fun kq v_7 v_14 w' => ∃ (l42 : List ByteArray) (v43 : Value) (x44 : Int) (x45 : Bool), v_7 = v43 ∧ v_14 = .int .i64 x44 ∧ Aside0 (impl_opener_texts_0.l0 kq l42 x44 x45 a1 a2 = some (r1, r2)) ∧ Aside0 (kq ≤ k) ∧ Hp A w w' [.box p0 [.bool x45] 86, .box g4 [.int .i64 a1.f0, .string a1.f1, .slice Ap1 a1.f2.length cp1] 65, .own (Zd.slice 65 q65) (List.replicate t3.1.2 z65) [.slice B4 t3.1.2 d4], .own (Zd.slice 9 Zd.string) l42 [v43]])
 case atStart => exact ⟨_, _, _, _, rfl, rfl, H, ⟨Nat.le_refl _⟩, HS⟩
 case round =>
  clear HS H; (try clear F)
  obtain ⟨l42, v43, x44, x45, rfl, rfl, H, HKk41, HS⟩ := hrel
  obtain ⟨B43, d43, rfl, m43⟩ := HS.form 3 rfl
  have F := HS.boxes; simp only [bxn] at F
  cases gk with
  | zero => exact absurd H.out (by simp [impl_opener_texts_0.l0])
  | succ k41 =>
   simp only [impl_opener_texts_0.l0] at H
   by_cases c47 : x44 < (a1.f2.length : Int)
   case neg =>
    replace H := zneg c47 H
    replace c47 := eq_false c47
    obtain ⟨rfl, rfl⟩ := zsome2 H
    go_wp2
    exact bodyPost_ret (results_single rfl (.tmp .nil)) rfl ⟨_, rfl, HS.pick [0, 3] (by decide) (by rfl)⟩
   replace H := zpos c47 H
   replace c47 := eq_true c47
   by_cases c48 : 0 ≤ x44
   case neg => exact zno c48 H
   replace H := zpos c48 H
   replace c48 := eq_true c48
   by_cases c49 : x44 < (a1.f2.length : Int)
   case neg => exact zno c49 H
   replace H := zpos c49 H
   replace c49 := eq_true c49
   obtain ⟨ad50, B50_2, d50_2, rfl, e50_0, e50_1, e50_2, m50_2, y50_2⟩ := at_T65 gp1 x44 (of_eq_true c48) (of_eq_true c49)
   have e50_0_50 := (hV.keepc HS e50_0)
   have e50_1_50 := (hV.keepc HS e50_1)
   have e50_2_50 := (hV.keepc HS e50_2)
   replace H := zbind H; obtain ⟨t55, ht55, H⟩ := H
   by_cases c59 : l42.length + 1 ≤ 8796093022208
   case neg => exact zno c59 H
   replace H := zpos c59 H
   replace c59 := eq_true c59
   replace H := zlets H; obtain ⟨y60, e_y60, H⟩ := H
   go_wp2_with (first | ((with_reducible refine gate_dst (N := 9) rfl ?_); refine ev_box rfl HS (by first | (go_simp; done) | (go_simp; rfl)) rfl ?_; clear HS; (try clear F); intro g9 w9 HS; (try simp only [hpn, hpm] at HS); have F := HS.boxes; simp only [bxn] at F) | ((with_reducible refine gate_store (p := 9) rfl ?_); refine ev_store rfl 4 0 HS (seg := [.int .i64 ((rd_T65 a1.f2 x44).f0), .string ((rd_T65 a1.f2 x44).f1), .slice B50_2 (rd_T65 a1.f2 x44).f2.length d50_2]) rfl rfl rfl rfl rfl rfl (by kernel_rfl) (by simp [wrt]) (by simp [Value.oneCell']) ?_; clear HS; (try clear F); intro w53 HS; (try simp only [hpn, hpm] at HS); have F := HS.boxes; simp only [bxn] at F) | ((with_reducible refine gate_dst (N := 22) rfl ?_); refine HS.lend [0] (by decide) [.box p0 [.bool x45] 86] rfl (fun A' HL HD HA HB => ?_); refine ev_call rfl Tryd.func54 (by kernel_rfl) rfl #[.pointer (some ⟨p0, 0, none⟩), .agg #[.int .i64 ((rd_T65 a1.f2 x44).f0), .string ((rd_T65 a1.f2 x44).f1), .slice B50_2 (rd_T65 a1.f2 x44).f2.length d50_2], .int .i64 a2] rfl (by simp only [mpn]; rfl) ?_; refine (impl_opener_text_0.calls ht55.out y50_2 m50_2 (hV.lend HS HL) HA).mono ?_; rintro _ wt55 ⟨rfl, HQ⟩; refine ⟨_, rfl, ?_⟩; replace HS := HB _ _ HQ (Nat.le_of_ble_eq_true rfl); clear HQ HA HB HL HD; (try simp only [hpn, hpm] at HS); (try clear F); (try simp only [hpn, hpm] at HS); have F := HS.boxes; simp only [bxn] at F) | ((with_reducible refine gate_dst (N := 23) rfl ?_); refine ev_lit rfl Zd.string [] ([t55.1] : List ByteArray) ([.string t55.1] ++ []) HS (by first | (go_simp; done) | (go_simp; rfl)) rfl rfl (Nat.le_of_ble_eq_true rfl) (MadeL.cons (js1 := []) (c := [.string t55.1]) rfl (made_flat (fun _ => rfl)) MadeL.nil (by decide)) ?_; clear HS; (try clear F); intro v57 w57 HS; obtain ⟨B57, d57, rfl, m57⟩ := HS.formn 1 5 rfl rfl; (try simp only [hpn, hpm] at HS); have F := HS.boxes; simp only [bxn] at F) | ((with_reducible refine gate_dst (N := 24) rfl ?_); refine ev_append rfl Zd.string 3 5 HS rfl rfl (by decide) rfl rfl rfl Tryd.underlying23 info9 rfl (by decide) (by decide) (by have := of_eq_true c59; first | omega | (simp only [List.length_cons, List.length_nil, List.length_append, Nat.zero_add] at this ⊢; omega)) ?_; clear HS; (try clear F); intro v60 w60 HS; rw [← e_y60.out] at HS; obtain ⟨B60, d60, rfl, m60⟩ := HS.form 6 rfl; (try simp only [hpn, hpm] at HS); have F := HS.boxes; simp only [bxn] at F))
   go_roundg k41
   case measure => have := HKk41.out; omega
   case rel => exact ⟨_, _, _, _, rfl, rfl, H, ⟨by have := HKk41.out; omega⟩, HS.pick [0, 1, 2, 6] (by decide) (by rfl)⟩
end Go.Proofs.YtoaoncnbimcdgaaDoor.F
