/- Functions of the program and of the law, and that their calls do what is written here. -/
import Derived.Test.YtoaoncnbimcdgaaDoorZgFnExactReadCerti
import Derived.Test.YtoaoncnbimcdgaaDoorZgFnExactReadCertk
namespace Go.Proofs.YtoaoncnbimcdgaaDoor.F
open Go.RowKit Go.Proofs.YtoaoncnbimcdgaaDoorW.PrintWords Go.Proofs.YtoaoncnbimcdgaaDoorW.PrintLast Go.Proofs.YtoaoncnbimcdgaaDoorW.PrintMore Go.Proofs.YtoaoncnbimcdgaaDoor.Z
attribute [local go_sem] max2_int min2_int max_two min_two max_three min_three max_four min_four
set_option linter.unusedVariables false
set_option linter.unusedSimpArgs false
set_option maxRecDepth 100000
/-! ### impl_opener_list_0: function 53 -/
def impl_opener_list_0.f (a0 : S86) (a1 : S65) (a2 : Int) : Option ((Bool × Nat) × S86) := (if a1.f0 = 48 then (if 0 ≤ a2 then (if (a1.f2.length : Int) = a2 then (some ((true, 0), a0)) else (if a2 < 0 then (some ((false, 0), (⟨true⟩ : S86))) else (if 0 ≤ a2 then (if (a2).toNat ≤ 5864062014805 then (some ((false, (a2).toNat), (⟨true⟩ : S86))) else none) else none))) else (some ((true, 0), a0))) else (if a2 < 0 then (some ((false, 0), (⟨true⟩ : S86))) else (if 0 ≤ a2 then (if (a2).toNat ≤ 5864062014805 then (some ((false, (a2).toNat), (⟨true⟩ : S86))) else none) else none)))
set_option maxHeartbeats 16000000 in
theorem impl_opener_list_0.calls {a0 : S86} {a1 : S65} {a2 : Int} {A : FP} {p0 : Nat} {Ap1 : Option Addr} {np1 cp1 : Nat} {wv : World} {r1 : (Bool × Nat)} {r2 : S86} {w : World} (h : impl_opener_list_0.f a0 a1 a2 = some (r1, r2)) (gp1 : k65.C wv Ap1 np1 a1.f2) (lp1 : np1 ≤ cp1) (hV : View A w wv) (HS : Hp A w w [.box p0 [.bool a0.f0] 86]) :
    Calls Tryd.prog 53 #[.pointer (some ⟨p0, 0, none⟩), .agg #[.int .i64 a1.f0, .string a1.f1, .slice Ap1 np1 cp1], .int .i64 a2] w (fun e w' => ∃ v0_ : Value, e = .returned (cond r1.1 (.slice Ap1 np1 cp1) v0_) ∧ Hp A w w' [.box p0 [.bool r2.f0] 86, .own (Zd.slice 65 q65) (List.replicate r1.2 z65) [v0_]]) := by
 obtain rfl := C_len gp1
 have H := Aside0.mk h
 clear h
 unfold impl_opener_list_0.f at H
 go_enter Tryd.func53, Tryd.ntmps53
 by_cases c3 : a1.f0 = 48
 case neg =>
  replace H := zneg c3 H
  have c3a := beq_eq_false_iff_ne.mpr c3
  have c3b := bne_iff_ne.mpr c3
  clear c3
  by_cases c17 : a2 < 0
  case pos =>
   replace H := zpos c17 H
   replace c17 := eq_true c17
   obtain ⟨rfl, rfl⟩ := zsome2 H
   go_wp2_with (first | ((with_reducible refine gate_dst (N := 4) rfl ?_); refine ev_box rfl HS (by first | (go_simp; done) | (go_simp; rfl)) rfl ?_; clear HS; (try clear F); intro g4 w4 HS; (try simp only [hpn, hpm] at HS); have F := HS.boxes; simp only [bxn] at F) | ((with_reducible refine gate_store (p := 23) rfl ?_); refine ev_store rfl 0 0 HS (seg := [.bool true]) rfl rfl rfl rfl rfl rfl (by kernel_rfl) (by simp [wrt]) (by simp [Value.oneCell']) ?_; clear HS; (try clear F); intro w15 HS; (try simp only [hpn, hpm] at HS); have F := HS.boxes; simp only [bxn] at F) | ((with_reducible refine gate_dst (N := 26) rfl ?_); refine ev_make rfl q65 z65 HS rfl (0 : Int) rfl rfl Tryd.underlying63 info65 rfl (by decide) (by decide) q65_zero (of_eq_true (eq_true (by decide : (0 : Int) ≤ 0))) (by have := of_eq_true (eq_true (by decide : (0 : Int).toNat ≤ 5864062014805)); omega) ?_; clear HS; (try clear F); intro v18 w18 HS; obtain ⟨B18, d18, rfl, m18⟩ := HS.formn 0 2 rfl (by first | rfl | simp); (try simp only [hpn, hpm] at HS); have F := HS.boxes; simp only [bxn] at F))
   first | exact bodyPost_ret (results_single rfl (.tmp .nil)) rfl ⟨_, rfl, HS.pick [0, 2] (by decide) (by rfl)⟩ | exact bodyPost_ret (results_single rfl (.tmp .nil)) rfl ⟨rfl, _, HS.pick [0, 2] (by decide) (by rfl)⟩
  replace H := zneg c17 H
  replace c17 := eq_false c17
  by_cases c20 : 0 ≤ a2
  case neg => exact zno c20 H
  replace H := zpos c20 H
  replace c20 := eq_true c20
  by_cases c21 : (a2).toNat ≤ 5864062014805
  case neg => exact zno c21 H
  replace H := zpos c21 H
  replace c21 := eq_true c21
  obtain ⟨rfl, rfl⟩ := zsome2 H
  go_wp2_with (first | ((with_reducible refine gate_dst (N := 4) rfl ?_); refine ev_box rfl HS (by first | (go_simp; done) | (go_simp; rfl)) rfl ?_; clear HS; (try clear F); intro g4 w4 HS; (try simp only [hpn, hpm] at HS); have F := HS.boxes; simp only [bxn] at F) | ((with_reducible refine gate_store (p := 23) rfl ?_); refine ev_store rfl 0 0 HS (seg := [.bool true]) rfl rfl rfl rfl rfl rfl (by kernel_rfl) (by simp [wrt]) (by simp [Value.oneCell']) ?_; clear HS; (try clear F); intro w15 HS; (try simp only [hpn, hpm] at HS); have F := HS.boxes; simp only [bxn] at F) | ((with_reducible refine gate_dst (N := 26) rfl ?_); refine ev_make rfl q65 z65 HS rfl a2 rfl rfl Tryd.underlying63 info65 rfl (by decide) (by decide) q65_zero (of_eq_true c20) (by have := of_eq_true c21; omega) ?_; clear HS; (try clear F); intro v22 w22 HS; obtain ⟨B22, d22, rfl, m22⟩ := HS.formn ((a2).toNat) 2 rfl (by first | rfl | simp); (try simp only [hpn, hpm] at HS); have F := HS.boxes; simp only [bxn] at F))
  first | exact bodyPost_ret (results_single rfl (.tmp .nil)) rfl ⟨_, rfl, HS.pick [0, 2] (by decide) (by rfl)⟩ | exact bodyPost_ret (results_single rfl (.tmp .nil)) rfl ⟨rfl, _, HS.pick [0, 2] (by decide) (by rfl)⟩
 replace H := zpos c3 H
 have c3a := beq_iff_eq.mpr c3
 have c3b := bne_eq_false_iff_eq.mpr c3
 clear c3
 by_cases c4 : 0 ≤ a2
 case neg =>
  replace H := zneg c4 H
  replace c4 := eq_false c4
  obtain ⟨rfl, rfl⟩ := zsome2 H
  go_wp2_with (first | ((with_reducible refine gate_dst (N := 4) rfl ?_); refine ev_box rfl HS (by first | (go_simp; done) | (go_simp; rfl)) rfl ?_; clear HS; (try clear F); intro g4 w4 HS; (try simp only [hpn, hpm] at HS); have F := HS.boxes; simp only [bxn] at F))
  replace HS := HS.nil 65 q65
  first | exact bodyPost_ret (results_single rfl (.tmp .nil)) rfl ⟨_, rfl, HS.pick [0, 2] (by decide) (by rfl)⟩ | exact bodyPost_ret (results_single rfl (.tmp .nil)) rfl ⟨rfl, _, HS.pick [0, 2] (by decide) (by rfl)⟩
 replace H := zpos c4 H
 replace c4 := eq_true c4
 go_upto_if 20 with (first | ((with_reducible refine gate_dst (N := 4) rfl ?_); refine ev_box rfl HS (by first | (go_simp; done) | (go_simp; rfl)) rfl ?_; clear HS; (try clear F); intro g4 w4 HS; (try simp only [hpn, hpm] at HS); have F := HS.boxes; simp only [bxn] at F))
 by_cases c5 : (a1.f2.length : Int) = a2
 case pos =>
  replace H := zpos c5 H
  have c5a := beq_iff_eq.mpr c5
  have c5b := bne_eq_false_iff_eq.mpr c5
  clear c5
  (try simp only [c5a, c5b, dcn])
  obtain ⟨rfl, rfl⟩ := zsome2 H
  go_wp2
  replace HS := HS.nil 65 q65
  first | exact bodyPost_ret (results_single rfl (.tmp .nil)) rfl ⟨_, rfl, HS.pick [0, 2] (by decide) (by rfl)⟩ | exact bodyPost_ret (results_single rfl (.tmp .nil)) rfl ⟨rfl, _, HS.pick [0, 2] (by decide) (by rfl)⟩
 replace H := zneg c5 H
 have c5a := beq_eq_false_iff_ne.mpr c5
 have c5b := bne_iff_ne.mpr c5
 clear c5
 (try simp only [c5a, c5b, dcn])
 by_cases c8 : a2 < 0
 case pos =>
  replace H := zpos c8 H
  replace c8 := eq_true c8
  obtain ⟨rfl, rfl⟩ := zsome2 H
  go_wp2_with (first | ((with_reducible refine gate_store (p := 23) rfl ?_); refine ev_store rfl 0 0 HS (seg := [.bool true]) rfl rfl rfl rfl rfl rfl (by kernel_rfl) (by simp [wrt]) (by simp [Value.oneCell']) ?_; clear HS; (try clear F); intro w6 HS; (try simp only [hpn, hpm] at HS); have F := HS.boxes; simp only [bxn] at F) | ((with_reducible refine gate_dst (N := 26) rfl ?_); refine ev_make rfl q65 z65 HS rfl (0 : Int) rfl rfl Tryd.underlying63 info65 rfl (by decide) (by decide) q65_zero (of_eq_true (eq_true (by decide : (0 : Int) ≤ 0))) (by have := of_eq_true (eq_true (by decide : (0 : Int).toNat ≤ 5864062014805)); omega) ?_; clear HS; (try clear F); intro v9 w9 HS; obtain ⟨B9, d9, rfl, m9⟩ := HS.formn 0 2 rfl (by first | rfl | simp); (try simp only [hpn, hpm] at HS); have F := HS.boxes; simp only [bxn] at F))
  first | exact bodyPost_ret (results_single rfl (.tmp .nil)) rfl ⟨_, rfl, HS.pick [0, 2] (by decide) (by rfl)⟩ | exact bodyPost_ret (results_single rfl (.tmp .nil)) rfl ⟨rfl, _, HS.pick [0, 2] (by decide) (by rfl)⟩
 replace H := zneg c8 H
 replace c8 := eq_false c8
 by_cases c11 : 0 ≤ a2
 case neg => exact zno c11 H
 replace H := zpos c11 H
 replace c11 := eq_true c11
 by_cases c12 : (a2).toNat ≤ 5864062014805
 case neg => exact zno c12 H
 replace H := zpos c12 H
 replace c12 := eq_true c12
 obtain ⟨rfl, rfl⟩ := zsome2 H
 go_wp2_with (first | ((with_reducible refine gate_store (p := 23) rfl ?_); refine ev_store rfl 0 0 HS (seg := [.bool true]) rfl rfl rfl rfl rfl rfl (by kernel_rfl) (by simp [wrt]) (by simp [Value.oneCell']) ?_; clear HS; (try clear F); intro w6 HS; (try simp only [hpn, hpm] at HS); have F := HS.boxes; simp only [bxn] at F) | ((with_reducible refine gate_dst (N := 26) rfl ?_); refine ev_make rfl q65 z65 HS rfl a2 rfl rfl Tryd.underlying63 info65 rfl (by decide) (by decide) q65_zero (of_eq_true c11) (by have := of_eq_true c12; omega) ?_; clear HS; (try clear F); intro v13 w13 HS; obtain ⟨B13, d13, rfl, m13⟩ := HS.formn ((a2).toNat) 2 rfl (by first | rfl | simp); (try simp only [hpn, hpm] at HS); have F := HS.boxes; simp only [bxn] at F))
 first | exact bodyPost_ret (results_single rfl (.tmp .nil)) rfl ⟨_, rfl, HS.pick [0, 2] (by decide) (by rfl)⟩ | exact bodyPost_ret (results_single rfl (.tmp .nil)) rfl ⟨rfl, _, HS.pick [0, 2] (by decide) (by rfl)⟩
/-! ### impl_opener_text_0: function 54 -/
def impl_opener_text_0.f (a0 : S86) (a1 : S65) (a2 : Int) : Option (ByteArray × S86) := (if a0.f0 = true then (some (a1.f1, (⟨true⟩ : S86))) else (some (a1.f1, (⟨(a1.f0 != a2)⟩ : S86))))
set_option maxHeartbeats 16000000 in
theorem impl_opener_text_0.calls {a0 : S86} {a1 : S65} {a2 : Int} {A : FP} {p0 : Nat} {Ap1 : Option Addr} {np1 cp1 : Nat} {wv : World} {r1 : ByteArray} {r2 : S86} {w : World} (h : impl_opener_text_0.f a0 a1 a2 = some (r1, r2)) (gp1 : k65.C wv Ap1 np1 a1.f2) (lp1 : np1 ≤ cp1) (hV : View A w wv) (HS : Hp A w w [.box p0 [.bool a0.f0] 86]) :
    Calls Tryd.prog 54 #[.pointer (some ⟨p0, 0, none⟩), .agg #[.int .i64 a1.f0, .string a1.f1, .slice Ap1 np1 cp1], .int .i64 a2] w (fun e w' => e = .returned (.string r1) ∧ Hp A w w' [.box p0 [.bool r2.f0] 86]) := by
 obtain rfl := C_len gp1
 have H := Aside0.mk h
 clear h
 unfold impl_opener_text_0.f at H
 go_enter Tryd.func54, Tryd.ntmps54
 by_cases c3 : a0.f0 = true
 case pos =>
  replace H := zpos c3 H
  obtain ⟨rfl, rfl⟩ := zsome2 H
  go_wp2_with (first | ((with_reducible refine gate_dst (N := 4) rfl ?_); refine ev_box rfl HS (by first | (go_simp; done) | (go_simp; rfl)) rfl ?_; clear HS; (try clear F); intro g4 w4 HS; (try simp only [hpn, hpm] at HS); have F := HS.boxes; simp only [bxn] at F; (try simp only [c3])) | ((with_reducible refine gate_store (p := 19) rfl ?_); refine ev_store rfl 0 0 HS (seg := [.bool true]) rfl rfl rfl rfl rfl rfl (by kernel_rfl) (by simp [wrt]) (by simp [Value.oneCell']) ?_; clear HS; (try clear F); intro w4 HS; (try simp only [hpn, hpm] at HS); have F := HS.boxes; simp only [bxn] at F))
  go_ret
  exact ⟨rfl, HS.pick [0] (by decide) (by rfl)⟩
 replace H := zneg c3 H
 replace c3 := eq_false_of_ne_true c3
 obtain ⟨rfl, rfl⟩ := zsome2 H
 go_wp2_with (first | ((with_reducible refine gate_dst (N := 4) rfl ?_); refine ev_box rfl HS (by first | (go_simp; done) | (go_simp; rfl)) rfl ?_; clear HS; (try clear F); intro g4 w4 HS; (try simp only [hpn, hpm] at HS); have F := HS.boxes; simp only [bxn] at F; (try simp only [c3])) | ((with_reducible refine gate_store (p := 19) rfl ?_); refine ev_store rfl 0 0 HS (seg := [.bool (a1.f0 != a2)]) rfl rfl rfl rfl rfl rfl (by kernel_rfl) (by simp [wrt]) (by simp [Value.oneCell']) ?_; clear HS; (try clear F); intro w6 HS; (try simp only [hpn, hpm] at HS); have F := HS.boxes; simp only [bxn] at F))
 go_ret
 exact ⟨rfl, HS.pick [0] (by decide) (by rfl)⟩
/-! ### impl_SameItem: function 110 -/
mutual
def impl_SameItem.f : Nat → S65 → S65 → Option (Bool)
  | 0, _, _ => none
  | k + 1, a0, a1 => (if a0.f0 = a1.f0 then (if a0.f1.toList = a1.f1.toList then ((impl_SameItem_impl_Item.f k a0.f2 a1.f2).bind fun t7 => (some t7)) else (some false)) else (some false))
def impl_SameItem_impl_Item.l0 : Nat → Int → (List S65) → (List S65) → Option (Bool)
  | 0, _, _, _ => none
  | k + 1, x5, a0, a1 => (if x5 < (a0.length : Int) then (if 0 ≤ x5 then (if x5 < (a0.length : Int) then (if x5 < (a1.length : Int) then ((impl_SameItem.f k (rd_T65 a0 x5) (rd_T65 a1 x5)).bind fun t21 => (if t21 = true then (impl_SameItem_impl_Item.l0 k (wrap64 (x5 + 1)) a0 a1) else (some false))) else none) else none) else none) else (some true))
def impl_SameItem_impl_Item.f : Nat → (List S65) → (List S65) → Option (Bool)
  | 0, _, _ => none
  | k + 1, a0, a1 => (if (a0.length : Int) = (a1.length : Int) then (impl_SameItem_impl_Item.l0 k 0 a0 a1) else (some false))
end
set_option maxHeartbeats 16000000 in
theorem impl_SameItem_impl_Item.calls_ {K : Nat} (IH : ∀ {k : Nat} (hK : k ≤ K) {a0 : S65} {a1 : S65} {Ap0 : Option Addr} {np0 cp0 : Nat} {Ap1 : Option Addr} {np1 cp1 : Nat} {r : Bool} {w : World} (h : impl_SameItem.f k a0 a1 = some r) (gp0 : k65.C w Ap0 np0 a0.f2) (lp0 : np0 ≤ cp0) (gp1 : k65.C w Ap1 np1 a1.f2) (lp1 : np1 ≤ cp1), Calls Tryd.prog 110 #[.agg #[.int .i64 a0.f0, .string a0.f1, .slice Ap0 np0 cp0], .agg #[.int .i64 a1.f0, .string a1.f1, .slice Ap1 np1 cp1]] w (fun e w' => e = .returned (.bool r) ∧ Hp noFP w w' [])) : ∀ {k : Nat} (hK : k ≤ K) {a0 : (List S65)} {a1 : (List S65)} {Ap0 : Option Addr} {np0 cp0 : Nat} {Ap1 : Option Addr} {np1 cp1 : Nat} {r : Bool} {w : World} (h : impl_SameItem_impl_Item.f k a0 a1 = some r) (gp0 : k65.C w Ap0 np0 a0) (lp0 : np0 ≤ cp0) (gp1 : k65.C w Ap1 np1 a1) (lp1 : np1 ≤ cp1),
    Calls Tryd.prog 115 #[.slice Ap0 np0 cp0, .slice Ap1 np1 cp1, .func (.func 110) #[] #[]] w (fun e w' => e = .returned (.bool r) ∧ Hp noFP w w' []) := by
  intro k hK a0 a1 Ap0 np0 cp0 Ap1 np1 cp1 r w h gp0 lp0 gp1 lp1
  cases k with
  | zero => exact absurd h (by simp [impl_SameItem_impl_Item.f])
  | succ k =>
  have HK0 : Aside0 (k ≤ K) := ⟨by omega⟩
  clear hK
  obtain rfl := C_len gp0
  obtain rfl := C_len gp1
  have HS := Hp.start w
  have H := Aside0.mk h
  clear h
  simp only [impl_SameItem_impl_Item.f] at H
  go_enter Tryd.func115, Tryd.ntmps115
  by_cases c1 : (a0.length : Int) = (a1.length : Int)
  case neg =>
   replace H := zneg c1 H
   have c1a := beq_eq_false_iff_ne.mpr c1
   have c1b := bne_iff_ne.mpr c1
   clear c1
   obtain rfl := zsome H
   go_wp2
   go_ret
   exact ⟨rfl, HS.pick [] (by decide) (by rfl)⟩
  replace H := zpos c1 H
  have c1a := beq_iff_eq.mpr c1
  have c1b := bne_eq_false_iff_eq.mpr c1
  clear c1
  go_wp2
  go_loopg [17] k (fun kq v_17 w' => ∃ (x5 : Int), v_17 = .int .i64 x5 ∧ Aside0 (impl_SameItem_impl_Item.l0 kq x5 a0 a1 = some r) ∧ Aside0 (kq ≤ k) ∧ Hp noFP w w' [])
  case atStart => exact ⟨_, rfl, H, ⟨Nat.le_refl _⟩, HS⟩
  case round =>
   clear HS H; (try clear F)
   obtain ⟨x5, rfl, H, HKk4, HS⟩ := hrel
   cases gk with
   | zero => exact absurd H.out (by simp [impl_SameItem_impl_Item.l0])
   | succ k4 =>
    simp only [impl_SameItem_impl_Item.l0] at H
    by_cases c7 : x5 < (a0.length : Int)
    case neg =>
     replace H := zneg c7 H
     replace c7 := eq_false c7
     obtain rfl := zsome H
     go_wp2
     go_ret
     exact ⟨rfl, HS.pick [] (by decide) (by rfl)⟩
    replace H := zpos c7 H
    replace c7 := eq_true c7
    by_cases c8 : 0 ≤ x5
    case neg => exact zno c8 H
    replace H := zpos c8 H
    replace c8 := eq_true c8
    by_cases c9 : x5 < (a0.length : Int)
    case neg => exact zno c9 H
    replace H := zpos c9 H
    replace c9 := eq_true c9
    obtain ⟨ad10, B10_2, d10_2, rfl, e10_0, e10_1, e10_2, m10_2, y10_2⟩ := at_T65 gp0 x5 (of_eq_true c8) (of_eq_true c9)
    have e10_0_10 := (HS.keepc e10_0)
    have e10_1_10 := (HS.keepc e10_1)
    have e10_2_10 := (HS.keepc e10_2)
    by_cases c15 : x5 < (a1.length : Int)
    case neg => exact zno c15 H
    replace H := zpos c15 H
    replace c15 := eq_true c15
    replace H := zbind H; obtain ⟨t21, ht21, H⟩ := H
    go_upto_if 30 with (first | ((with_reducible refine gate_dst (N := 8) rfl ?_); refine ev_box rfl HS (by first | (go_simp; done) | (go_simp; rfl)) rfl ?_; clear HS; (try clear F); intro g8 w8 HS; (try simp only [hpn, hpm] at HS); have F := HS.boxes; simp only [bxn] at F) | ((with_reducible refine gate_store (p := 8) rfl ?_); refine ev_store rfl 0 0 HS (seg := [.int .i64 ((rd_T65 a0 x5).f0), .string ((rd_T65 a0 x5).f1), .slice B10_2 (rd_T65 a0 x5).f2.length d10_2]) rfl rfl rfl rfl rfl rfl (by kernel_rfl) (by simp [wrt]) (by simp [Value.oneCell']) ?_; clear HS; (try clear F); intro w13 HS; (try simp only [hpn, hpm] at HS); have F := HS.boxes; simp only [bxn] at F; obtain ⟨ad16, B16_2, d16_2, rfl, e16_0, e16_1, e16_2, m16_2, y16_2⟩ := at_T65 gp1 x5 (of_eq_true c8) (of_eq_true c15); have e16_0_16 := (HS.keepc e16_0); have e16_1_16 := (HS.keepc e16_1); have e16_2_16 := (HS.keepc e16_2)) | ((with_reducible refine gate_dst (N := 9) rfl ?_); refine ev_box rfl HS (by first | (go_simp; done) | (go_simp; rfl)) rfl ?_; clear HS; (try clear F); intro g9 w9 HS; (try simp only [hpn, hpm] at HS); have F := HS.boxes; simp only [bxn] at F) | ((with_reducible refine gate_store (p := 9) rfl ?_); refine ev_store rfl 1 0 HS (seg := [.int .i64 ((rd_T65 a1 x5).f0), .string ((rd_T65 a1 x5).f1), .slice B16_2 (rd_T65 a1 x5).f2.length d16_2]) rfl rfl rfl rfl rfl rfl (by kernel_rfl) (by simp [wrt]) (by simp [Value.oneCell']) ?_; clear HS; (try clear F); intro w19 HS; (try simp only [hpn, hpm] at HS); have F := HS.boxes; simp only [bxn] at F) | ((with_reducible refine gate_dst (N := 29) rfl ?_); refine ev_callv rfl Tryd.func110 (by kernel_rfl) rfl #[.agg #[.int .i64 ((rd_T65 a0 x5).f0), .string ((rd_T65 a0 x5).f1), .slice B10_2 (rd_T65 a0 x5).f2.length d10_2], .agg #[.int .i64 ((rd_T65 a1 x5).f0), .string ((rd_T65 a1 x5).f1), .slice B16_2 (rd_T65 a1 x5).f2.length d16_2]] #[.agg #[.int .i64 ((rd_T65 a0 x5).f0), .string ((rd_T65 a0 x5).f1), .slice B10_2 (rd_T65 a0 x5).f2.length d10_2], .agg #[.int .i64 ((rd_T65 a1 x5).f0), .string ((rd_T65 a1 x5).f1), .slice B16_2 (rd_T65 a1 x5).f2.length d16_2]] rfl rfl (by simp only [mpn]; rfl) (by first | rfl | simp) ?_; refine (IH (by have := HK0.out; have := HKk4.out; omega) ht21.out (HS.ro y10_2) m10_2 (HS.ro y16_2) m16_2).mono ?_; rintro _ wt21 ⟨rfl, HQ⟩; refine ⟨_, rfl, ?_⟩; replace HS := HS.call HQ; clear HQ; (try clear F); (try simp only [hpn, hpm] at HS); have F := HS.boxes; simp only [bxn] at F))
    by_cases c23 : t21 = true
    case neg =>
     replace H := zneg c23 H
     replace c23 := eq_false_of_ne_true c23
     subst c23
     (try simp only [dcn, if_true, Bool.false_eq_true, if_false])
     obtain rfl := zsome H
     go_wp2
     go_ret
     exact ⟨rfl, HS.pick [] (by decide) (by rfl)⟩
    replace H := zpos c23 H
    subst c23
    (try simp only [dcn, if_true, Bool.false_eq_true, if_false])
    go_wp2
    go_roundg k4
    case measure => have := HK0.out; have := HKk4.out; omega
    case rel => exact ⟨_, rfl, H, ⟨by have := HK0.out; have := HKk4.out; omega⟩, HS.pick [] (by decide) (by rfl)⟩
set_option maxHeartbeats 16000000 in
theorem impl_SameItem.calls_ (K : Nat) : ∀ {k : Nat} (hK : k ≤ K) {a0 : S65} {a1 : S65} {Ap0 : Option Addr} {np0 cp0 : Nat} {Ap1 : Option Addr} {np1 cp1 : Nat} {r : Bool} {w : World} (h : impl_SameItem.f k a0 a1 = some r) (gp0 : k65.C w Ap0 np0 a0.f2) (lp0 : np0 ≤ cp0) (gp1 : k65.C w Ap1 np1 a1.f2) (lp1 : np1 ≤ cp1),
    Calls Tryd.prog 110 #[.agg #[.int .i64 a0.f0, .string a0.f1, .slice Ap0 np0 cp0], .agg #[.int .i64 a1.f0, .string a1.f1, .slice Ap1 np1 cp1]] w (fun e w' => e = .returned (.bool r) ∧ Hp noFP w w' []) := by
  induction K with
  | zero =>
    intro k hK a0 a1 Ap0 np0 cp0 Ap1 np1 cp1 r w h gp0 lp0 gp1 lp1
    obtain rfl : k = 0 := by omega
    exact absurd h (by simp [impl_SameItem.f])
  | succ K IH =>
    intro k hK a0 a1 Ap0 np0 cp0 Ap1 np1 cp1 r w h gp0 lp0 gp1 lp1
    cases k with
    | zero => exact absurd h (by simp [impl_SameItem.f])
    | succ k =>
    have HK0 : Aside0 (k ≤ K) := ⟨by omega⟩
    clear hK
    obtain rfl := C_len gp0
    obtain rfl := C_len gp1
    have HS := Hp.start w
    have H := Aside0.mk h
    clear h
    simp only [impl_SameItem.f] at H
    go_enter Tryd.func110, Tryd.ntmps110
    by_cases c5 : a0.f0 = a1.f0
    case neg =>
     replace H := zneg c5 H
     have c5a := beq_eq_false_iff_ne.mpr c5
     have c5b := bne_iff_ne.mpr c5
     clear c5
     obtain rfl := zsome H
     go_wp2_with (first | ((with_reducible refine gate_dst (N := 2) rfl ?_); refine ev_box rfl HS (by first | (go_simp; done) | (go_simp; rfl)) rfl ?_; clear HS; (try clear F); intro g2 w2 HS; (try simp only [hpn, hpm] at HS); have F := HS.boxes; simp only [bxn] at F) | ((with_reducible refine gate_dst (N := 3) rfl ?_); refine ev_box rfl HS (by first | (go_simp; done) | (go_simp; rfl)) rfl ?_; clear HS; (try clear F); intro g3 w3 HS; (try simp only [hpn, hpm] at HS); have F := HS.boxes; simp only [bxn] at F))
     go_ret
     exact ⟨rfl, HS.pick [] (by decide) (by rfl)⟩
    replace H := zpos c5 H
    have c5a := beq_iff_eq.mpr c5
    have c5b := bne_eq_false_iff_eq.mpr c5
    clear c5
    by_cases c6 : a0.f1.toList = a1.f1.toList
    case neg =>
     replace H := zneg c6 H
     have c6a := beq_eq_false_iff_ne.mpr c6
     have c6b := bne_iff_ne.mpr c6
     clear c6
     obtain rfl := zsome H
     go_wp2_with (first | ((with_reducible refine gate_dst (N := 2) rfl ?_); refine ev_box rfl HS (by first | (go_simp; done) | (go_simp; rfl)) rfl ?_; clear HS; (try clear F); intro g2 w2 HS; (try simp only [hpn, hpm] at HS); have F := HS.boxes; simp only [bxn] at F) | ((with_reducible refine gate_dst (N := 3) rfl ?_); refine ev_box rfl HS (by first | (go_simp; done) | (go_simp; rfl)) rfl ?_; clear HS; (try clear F); intro g3 w3 HS; (try simp only [hpn, hpm] at HS); have F := HS.boxes; simp only [bxn] at F))
     go_ret
     exact ⟨rfl, HS.pick [] (by decide) (by rfl)⟩
    replace H := zpos c6 H
    have c6a := beq_iff_eq.mpr c6
    have c6b := bne_eq_false_iff_eq.mpr c6
    clear c6
    replace H := zbind H; obtain ⟨t7, ht7, H⟩ := H
    obtain rfl := zsome H
    go_wp2_with (first | ((with_reducible refine gate_dst (N := 2) rfl ?_); refine ev_box rfl HS (by first | (go_simp; done) | (go_simp; rfl)) rfl ?_; clear HS; (try clear F); intro g2 w2 HS; (try simp only [hpn, hpm] at HS); have F := HS.boxes; simp only [bxn] at F) | ((with_reducible refine gate_dst (N := 3) rfl ?_); refine ev_box rfl HS (by first | (go_simp; done) | (go_simp; rfl)) rfl ?_; clear HS; (try clear F); intro g3 w3 HS; (try simp only [hpn, hpm] at HS); have F := HS.boxes; simp only [bxn] at F) | ((with_reducible refine gate_dst (N := 22) rfl ?_); refine gate_guard (by rfl) ?_; refine ev_call rfl Tryd.func115 (by kernel_rfl) rfl #[.slice Ap0 a0.f2.length cp0, .slice Ap1 a1.f2.length cp1, .func (.func 110) #[] #[]] rfl (by simp only [mpn]; rfl) ?_; refine (impl_SameItem_impl_Item.calls_ IH (by have := HK0.out; omega) ht7.out (HS.ro gp0) lp0 (HS.ro gp1) lp1).mono ?_; rintro _ wt7 ⟨rfl, HQ⟩; refine ⟨_, rfl, ?_⟩; replace HS := HS.call HQ; clear HQ; (try clear F); (try simp only [hpn, hpm] at HS); have F := HS.boxes; simp only [bxn] at F))
    go_ret
    exact ⟨rfl, HS.pick [] (by decide) (by rfl)⟩
theorem impl_SameItem.calls {k : Nat} {a0 : S65} {a1 : S65} {Ap0 : Option Addr} {np0 cp0 : Nat} {Ap1 : Option Addr} {np1 cp1 : Nat} {r : Bool} {w : World} (h : impl_SameItem.f k a0 a1 = some r) (gp0 : k65.C w Ap0 np0 a0.f2) (lp0 : np0 ≤ cp0) (gp1 : k65.C w Ap1 np1 a1.f2) (lp1 : np1 ≤ cp1) :
    Calls Tryd.prog 110 #[.agg #[.int .i64 a0.f0, .string a0.f1, .slice Ap0 np0 cp0], .agg #[.int .i64 a1.f0, .string a1.f1, .slice Ap1 np1 cp1]] w (fun e w' => e = .returned (.bool r) ∧ Hp noFP w w' []) := impl_SameItem.calls_ k (Nat.le_refl k) h gp0 lp0 gp1 lp1
/-! ### impl_IntIn: function 97 -/
mutual
def impl_IntIn.l0 : Nat → Int → Int → S65 → ByteArray → Option (Int × Bool)
  | 0, _, _, _, _ => none
  | k + 1, x19, x20, a0, y6 => (if x20 < (y6.size : Int) then (if 0 ≤ x20 then (if x20 < (y6.size : Int) then (impl_IntIn.l0 k (Go.bits .or .i64 (wrap64 (x19 * 256)) (wrap64 (rd (bytesOf y6) x20))) (wrap64 (x20 + 1)) a0 y6) else none) else none) else ((impl_within.f x19 0 1000000000).bind fun t101001 => (if t101001 = true then ((impl_IntItem.f k x19).bind fun t106001 => ((impl_SameItem.f k a0 t106001).bind fun t107001 => (if t107001 = true then (some (x19, true)) else (some (0, false))))) else (some (0, false)))))
def impl_IntIn.l1 : Nat → Int → Int → S65 → ByteArray → Option (Int × Bool)
  | 0, _, _, _, _ => none
  | k + 1, x47, x48, a0, y34 => (if x48 < (y34.size : Int) then (if 0 ≤ x48 then (if x48 < (y34.size : Int) then (impl_IntIn.l1 k (Go.bits .or .i64 (wrap64 (x47 * 256)) (wrap64 (rd (bytesOf y34) x48))) (wrap64 (x48 + 1)) a0 y34) else none) else none) else ((impl_within.f x47 0 1000000000).bind fun t201001 => (if t201001 = true then ((impl_IntItem.f k x47).bind fun t206001 => ((impl_SameItem.f k a0 t206001).bind fun t207001 => (if t207001 = true then (some (x47, true)) else (some (0, false))))) else (some (0, false)))))
end
def impl_IntIn.f (k : Nat) (a0 : S65) : Option (Int × Bool) := (if 5 < (a0.f1.size : Int) then (if 0 ≤ 5 then (if 5 ≤ (a0.f1.size : Int) then (lets (a0.f1.extract 0 5) fun y6 => (if y6.size ≤ 9223372036854775807 then (impl_IntIn.l0 k 0 0 a0 y6) else none)) else none) else none) else (if 0 ≤ (a0.f1.size : Int) then (if (a0.f1.size : Int) ≤ (a0.f1.size : Int) then (lets (a0.f1.extract 0 ((a0.f1.size : Int)).toNat) fun y34 => (if y34.size ≤ 9223372036854775807 then (impl_IntIn.l1 k 0 0 a0 y34) else none)) else none) else none))
def impl_IntIn.T7 : Bool × List (List Nat × List Nat) := (true, [([], []), ([0], [0]), ([1], [1]), ([2, 1], [2]), ([3], [3]), ([3], [3]), ([5, 3, 3], [3, 5]), ([4, 6, 6, 3], [3, 4, 6]), ([7, 3], [3, 7]), ([3, 8], [3, 8])])
theorem impl_IntIn.tT7 : rtab .any (opsOf Tryd.f97 7) = impl_IntIn.T7 := by kernel_rfl
set_option maxHeartbeats 16000000 in
theorem impl_IntIn.calls {k : Nat} {a0 : S65} {Ap0 : Option Addr} {np0 cp0 : Nat} {r1 : Int} {r2 : Bool} {w : World} (h : impl_IntIn.f k a0 = some (r1, r2)) (gp0 : k65.C w Ap0 np0 a0.f2) (lp0 : np0 ≤ cp0) :
    Calls Tryd.prog 97 #[.agg #[.int .i64 a0.f0, .string a0.f1, .slice Ap0 np0 cp0]] w (fun e w' => e = .returned (.tuple #[.int .i64 r1, .bool r2]) ∧ Hp noFP w w' []) := by
 obtain rfl := C_len gp0
 have HS := Hp.start w
 have H := Aside0.mk h
 clear h
 unfold impl_IntIn.f at H
 go_enter Tryd.func97, Tryd.ntmps97
 by_cases c3 : 5 < (a0.f1.size : Int)
 case pos =>
  replace H := zpos c3 H
  replace c3 := eq_true c3
  by_cases c4 : 0 ≤ 5
  case neg => exact zno c4 H
  replace H := zpos c4 H
  replace c4 := eq_true c4
  by_cases c5 : 5 ≤ (a0.f1.size : Int)
  case neg => exact zno c5 H
  replace H := zpos c5 H
  replace c5 := eq_true c5
  replace H := zlets H; obtain ⟨y6, e_y6, H⟩ := H
  by_cases c7 : y6.size ≤ 9223372036854775807
  case neg => exact zno c7 H
  replace H := zpos c7 H
  replace c7 := eq_true c7
  go_wp2_with (first | ((with_reducible refine gate_dst (N := 1) rfl ?_); refine ev_box rfl HS (by first | (go_simp; done) | (go_simp; rfl)) rfl ?_; clear HS; (try clear F); intro g1 w1 HS; (try simp only [hpn, hpm] at HS); have F := HS.boxes; simp only [bxn] at F) | ((with_reducible refine gate_dst (N := 13) rfl ?_); refine ev_val rfl (run_cut rfl rfl Tryd.underlying9 (.inl ⟨rfl, rfl⟩) (.inr ⟨_, _, rfl, rfl, by have := of_eq_true (eq_true (by decide : (0:Int) ≤ 0)); have := of_eq_true c4; have := of_eq_true c5; omega⟩) (by have := of_eq_true (eq_true (by decide : (0:Int) ≤ 0)); have := of_eq_true c4; have := of_eq_true c5; omega) (by have := of_eq_true (eq_true (by decide : (0:Int) ≤ 0)); have := of_eq_true c4; have := of_eq_true c5; omega)) ?_) | ((with_reducible refine gate_dst (N := 14) rfl ?_); refine ev_bytes rfl HS rfl (s := y6) (by rw [e_y6.out]; rfl) Tryd.underlying9 Tryd.underlying73 Tryd.underlying5 (of_eq_true c7) ?_; clear HS; (try clear F); intro v6 w6 HS; obtain ⟨B6, d6, rfl, m6⟩ := HS.vformb 1 rfl; (try simp only [hpn, hpm] at HS); have F := HS.boxes; simp only [bxn] at F))
  go_loopg [4, 16] k (fun kq v_4 v_16 w' => ∃ (x19 : Int) (x20 : Int), v_4 = .int .i64 x19 ∧ v_16 = .int .i64 x20 ∧ Aside0 (impl_IntIn.l0 kq x19 x20 a0 y6 = some (r1, r2)) ∧ Aside0 (kq ≤ k) ∧ Hp noFP w w' [.box g1 [.int .i64 a0.f0, .string a0.f1, .slice Ap0 a0.f2.length cp0] 65, .own (Zd.view 5 (Zd.int .u8)) (bytesOf y6) [.slice B6 y6.size d6]])
  case atStart => exact ⟨_, _, rfl, rfl, H, ⟨Nat.le_refl _⟩, HS⟩
  case round =>
   clear HS H; (try clear F)
   obtain ⟨x19, x20, rfl, rfl, H, HKk18, HS⟩ := hrel
   have F := HS.boxes; simp only [bxn] at F
   cases gk with
   | zero => exact absurd H.out (by simp [impl_IntIn.l0])
   | succ k18 =>
    simp only [impl_IntIn.l0] at H
    by_cases c22 : x20 < (y6.size : Int)
    case pos =>
     replace H := zpos c22 H
     replace c22 := eq_true c22
     by_cases c23 : 0 ≤ x20
     case neg => exact zno c23 H
     replace H := zpos c23 H
     replace c23 := eq_true c23
     by_cases c24 : x20 < (y6.size : Int)
     case neg => exact zno c24 H
     replace H := zpos c24 H
     replace c24 := eq_true c24
     obtain ⟨ad25, rfl, e25_0⟩ := Kd.at_int (HS.vrd 1 rfl) x20 (of_eq_true c23) (of_eq_true c24)
     go_wp2
     go_roundg k18
     case measure => have := HKk18.out; omega
     case rel => exact ⟨_, _, rfl, rfl, H, ⟨by have := HKk18.out; omega⟩, HS.pick [0, 1] (by decide) (by rfl)⟩
    replace H := zneg c22 H
    replace c22 := eq_false c22
    (try go_wp2)
    replace H := zbind H; obtain ⟨t101001, ht101001, H⟩ := H
    by_cases c103001 : t101001 = true
    case neg =>
     replace H := zneg c103001 H
     replace c103001 := eq_false_of_ne_true c103001
     subst c103001
     refine dr_start [] HS #[false, false, false, false, false, false, false, false, false, false] (by kernel_rfl) rfl rfl impl_IntIn.tT7 (fun w30 HT HS HH => ?_)
     (try clear F)
     refine drq_of [(0, some 26)] ?_
     repeat (first | (refine drq_pure HT (v := ?_) (a' := ?_) rfl rfl (by kernel_rfl) (fun _ _ _ h => h) (.inl ⟨by rfl, ?_⟩) ?_ ?_; rotate_left; (intro w'; go_simp; with_reducible rfl); rotate_left; (simp only [Act.put, ptn]; rfl)))
     refine drq_end ?_
     refine dr_one 1 HT rfl (by kernel_rfl) (by decide) (fun K hK => ?_)
     refine goes_ Tryd.func82 (by kernel_rfl) rfl #[.int .i64 x19, .int .i64 0, .int .i64 1000000000] (by rfl) rfl rfl (by simp only [mpn]; rfl) ?_; refine (impl_within.calls ht101001.out).mono ?_; rintro _ wt101001 ⟨rfl, HQ⟩; refine ⟨_, rfl, ?_⟩; replace HS := HS.call HQ; clear HQ; (try clear F)
     (try simp only [hpn, hpm] at HS)
     have F := HS.boxes; simp only [bxn] at F
     refine hK.out _ _ ⟨_, HS⟩ (fun HH => ?_)
     clear hK K
     refine norm_ (a' := ?_) ?_ ?_
     rotate_left
     · show Act.put _ (some 27) _ = _; simp only [Act.put, ptn]; rfl
     refine drq_of [(2, some 28), (3, some 29), (4, some 30), (5, some 31), (6, some 32), (7, some 33), (8, some 34), (9, some 35)] ?_
     repeat (first | (refine drq_pure HT (v := ?_) (a' := ?_) rfl rfl (by kernel_rfl) (fun _ _ _ h => h) (.inl ⟨by rfl, ?_⟩) ?_ ?_; rotate_left; (intro w'; go_simp; with_reducible rfl); rotate_left; (simp only [Act.put, ptn]; rfl)) | (refine drq_pure HT (v := undef) (a' := ?_) rfl rfl (by kernel_rfl) (fun _ _ _ h => h) (.inr ⟨by rfl, rfl⟩) ?_ ?_; rotate_left; (simp only [Act.put, ptn]; rfl)))
     refine drq_end ?_
     refine done_ (done_of HT.out (by kernel_rfl)) ?_
     (try clear F)
     have F := HS.boxes; simp only [bxn] at F
     obtain ⟨rfl, rfl⟩ := zsome2 H
     go_wp2
     exact bodyPost_ret (results_list (rs := [.tmp 2, .tmp 3]) rfl (by simp) (.tmp (.tmp .nil))) rfl ⟨rfl, HS.pick [] (by decide) (by rfl)⟩
    replace H := zpos c103001 H
    subst c103001
    replace H := zbind H; obtain ⟨t106001, ht106001, H⟩ := H
    replace H := zbind H; obtain ⟨t107001, ht107001, H⟩ := H
    refine dr_start [] HS #[false, false, false, false, false, false, false, false, false, false] (by kernel_rfl) rfl rfl impl_IntIn.tT7 (fun w27 HT HS HH => ?_)
    (try clear F)
    refine drq_of [(0, some 26)] ?_
    repeat (first | (refine drq_pure HT (v := ?_) (a' := ?_) rfl rfl (by kernel_rfl) (fun _ _ _ h => h) (.inl ⟨by rfl, ?_⟩) ?_ ?_; rotate_left; (intro w'; go_simp; with_reducible rfl); rotate_left; (simp only [Act.put, ptn]; rfl)))
    refine drq_end ?_
    refine dr_one 1 HT rfl (by kernel_rfl) (by decide) (fun K hK => ?_)
    refine goes_ Tryd.func82 (by kernel_rfl) rfl #[.int .i64 x19, .int .i64 0, .int .i64 1000000000] (by rfl) rfl rfl (by simp only [mpn]; rfl) ?_; refine (impl_within.calls ht101001.out).mono ?_; rintro _ wt101001 ⟨rfl, HQ⟩; refine ⟨_, rfl, ?_⟩; replace HS := HS.call HQ; clear HQ; (try clear F)
    (try simp only [hpn, hpm] at HS)
    have F := HS.boxes; simp only [bxn] at F
    refine hK.out _ _ ⟨_, HS⟩ (fun HH => ?_)
    clear hK K
    refine norm_ (a' := ?_) ?_ ?_
    rotate_left
    · show Act.put _ (some 27) _ = _; simp only [Act.put, ptn]; rfl
    refine drq_of [(2, some 28), (3, some 29), (4, some 30), (5, some 31)] ?_
    repeat (first | (refine drq_pure HT (v := ?_) (a' := ?_) rfl rfl (by kernel_rfl) (fun _ _ _ h => h) (.inl ⟨by rfl, ?_⟩) ?_ ?_; rotate_left; (intro w'; go_simp; with_reducible rfl); rotate_left; (simp only [Act.put, ptn]; rfl)) | (refine drq_take HT HH (v := ?_) (a' := ?_) rfl rfl (by kernel_rfl) (fun _ _ _ h => h) (.inl ⟨by rfl, ?_⟩) ?_ ?_; rotate_left; (rintro w' ⟨rs', HS'⟩; have F := HS'.boxes; simp only [bxn, List.cons_append, List.nil_append] at F; go_simp; with_reducible rfl); rotate_left; (simp only [Act.put, ptn]; rfl)))
    refine drq_end ?_
    refine dr_one 6 HT rfl (by kernel_rfl) (by decide) (fun K hK => ?_)
    refine goes_ Tryd.func88 (by kernel_rfl) rfl #[.int .i64 x19] (by rfl) rfl rfl (by simp only [mpn]; rfl) ?_; refine (impl_IntItem.calls ht106001.out).mono ?_; rintro _ wt106001 ⟨v106002, rfl, HQ⟩; refine ⟨_, rfl, ?_⟩; replace HS := HS.call HQ; clear HQ; (try clear F); obtain ⟨B106002, d106002, rfl, m106002⟩ := HS.form 2 rfl
    (try simp only [hpn, hpm] at HS)
    have F := HS.boxes; simp only [bxn] at F
    refine hK.out _ _ ⟨_, HS⟩ (fun HH => ?_)
    clear hK K
    refine norm_ (a' := ?_) ?_ ?_
    rotate_left
    · show Act.put _ (some 32) _ = _; simp only [Act.put, ptn]; rfl
    refine dr_one 7 HT rfl (by kernel_rfl) (by decide) (fun K hK => ?_)
    refine goes_ Tryd.func110 (by kernel_rfl) rfl #[.agg #[.int .i64 a0.f0, .string a0.f1, .slice Ap0 a0.f2.length cp0], .agg #[.int .i64 t106001.f0, .string t106001.f1, .slice B106002 t106001.f2.length d106002]] (by rfl) rfl rfl (by simp only [mpn]; rfl) ?_; refine (impl_SameItem.calls ht107001.out (HS.ro gp0) lp0 (HS.rd 2 rfl) m106002).mono ?_; rintro _ wt107001 ⟨rfl, HQ⟩; refine ⟨_, rfl, ?_⟩; replace HS := HS.call HQ; clear HQ; (try clear F)
    (try simp only [hpn, hpm] at HS)
    have F := HS.boxes; simp only [bxn] at F
    refine hK.out _ _ ⟨_, HS⟩ (fun HH => ?_)
    clear hK K
    refine norm_ (a' := ?_) ?_ ?_
    rotate_left
    · show Act.put _ (some 33) _ = _; simp only [Act.put, ptn]; rfl
    refine drq_of [(8, some 34), (9, some 35)] ?_
    repeat (first | (refine drq_pure HT (v := ?_) (a' := ?_) rfl rfl (by kernel_rfl) (fun _ _ _ h => h) (.inl ⟨by rfl, ?_⟩) ?_ ?_; rotate_left; (intro w'; go_simp; with_reducible rfl); rotate_left; (simp only [Act.put, ptn]; rfl)))
    refine drq_end ?_
    refine done_ (done_of HT.out (by kernel_rfl)) ?_
    (try clear F)
    have F := HS.boxes; simp only [bxn] at F
    by_cases c29 : t107001 = true
    case pos =>
     replace H := zpos c29 H
     subst c29
     (try simp only [dcn, if_true, Bool.false_eq_true, if_false])
     obtain ⟨rfl, rfl⟩ := zsome2 H
     go_wp2
     exact bodyPost_ret (results_list (rs := [.tmp 2, .tmp 3]) rfl (by simp) (.tmp (.tmp .nil))) rfl ⟨rfl, HS.pick [] (by decide) (by rfl)⟩
    replace H := zneg c29 H
    replace c29 := eq_false_of_ne_true c29
    subst c29
    (try simp only [dcn, if_true, Bool.false_eq_true, if_false])
    obtain ⟨rfl, rfl⟩ := zsome2 H
    go_wp2
    exact bodyPost_ret (results_list (rs := [.tmp 2, .tmp 3]) rfl (by simp) (.tmp (.tmp .nil))) rfl ⟨rfl, HS.pick [] (by decide) (by rfl)⟩
 replace H := zneg c3 H
 replace c3 := eq_false c3
 by_cases c32 : 0 ≤ (a0.f1.size : Int)
 case neg => exact zno c32 H
 replace H := zpos c32 H
 replace c32 := eq_true c32
 by_cases c33 : (a0.f1.size : Int) ≤ (a0.f1.size : Int)
 case neg => exact zno c33 H
 replace H := zpos c33 H
 replace c33 := eq_true c33
 replace H := zlets H; obtain ⟨y34, e_y34, H⟩ := H
 by_cases c35 : y34.size ≤ 9223372036854775807
 case neg => exact zno c35 H
 replace H := zpos c35 H
 replace c35 := eq_true c35
 go_wp2_with (first | ((with_reducible refine gate_dst (N := 1) rfl ?_); refine ev_box rfl HS (by first | (go_simp; done) | (go_simp; rfl)) rfl ?_; clear HS; (try clear F); intro g1 w1 HS; (try simp only [hpn, hpm] at HS); have F := HS.boxes; simp only [bxn] at F) | ((with_reducible refine gate_dst (N := 13) rfl ?_); refine ev_val rfl (run_cut rfl rfl Tryd.underlying9 (.inl ⟨rfl, rfl⟩) (.inr ⟨_, _, rfl, rfl, by have := of_eq_true (eq_true (by decide : (0:Int) ≤ 0)); have := of_eq_true c32; have := of_eq_true c33; omega⟩) (by have := of_eq_true (eq_true (by decide : (0:Int) ≤ 0)); have := of_eq_true c32; have := of_eq_true c33; omega) (by have := of_eq_true (eq_true (by decide : (0:Int) ≤ 0)); have := of_eq_true c32; have := of_eq_true c33; omega)) ?_) | ((with_reducible refine gate_dst (N := 14) rfl ?_); refine ev_bytes rfl HS rfl (s := y34) (by rw [e_y34.out]; rfl) Tryd.underlying9 Tryd.underlying73 Tryd.underlying5 (of_eq_true c35) ?_; clear HS; (try clear F); intro v34 w34 HS; obtain ⟨B34, d34, rfl, m34⟩ := HS.vformb 1 rfl; (try simp only [hpn, hpm] at HS); have F := HS.boxes; simp only [bxn] at F))
 go_loopg [4, 16] k (fun kq v_4 v_16 w' => ∃ (x47 : Int) (x48 : Int), v_4 = .int .i64 x47 ∧ v_16 = .int .i64 x48 ∧ Aside0 (impl_IntIn.l1 kq x47 x48 a0 y34 = some (r1, r2)) ∧ Aside0 (kq ≤ k) ∧ Hp noFP w w' [.box g1 [.int .i64 a0.f0, .string a0.f1, .slice Ap0 a0.f2.length cp0] 65, .own (Zd.view 5 (Zd.int .u8)) (bytesOf y34) [.slice B34 y34.size d34]])
 case atStart => exact ⟨_, _, rfl, rfl, H, ⟨Nat.le_refl _⟩, HS⟩
 case round =>
  clear HS H; (try clear F)
  obtain ⟨x47, x48, rfl, rfl, H, HKk46, HS⟩ := hrel
  have F := HS.boxes; simp only [bxn] at F
  cases gk with
  | zero => exact absurd H.out (by simp [impl_IntIn.l1])
  | succ k46 =>
   simp only [impl_IntIn.l1] at H
   by_cases c50 : x48 < (y34.size : Int)
   case pos =>
    replace H := zpos c50 H
    replace c50 := eq_true c50
    by_cases c51 : 0 ≤ x48
    case neg => exact zno c51 H
    replace H := zpos c51 H
    replace c51 := eq_true c51
    by_cases c52 : x48 < (y34.size : Int)
    case neg => exact zno c52 H
    replace H := zpos c52 H
    replace c52 := eq_true c52
    obtain ⟨ad53, rfl, e53_0⟩ := Kd.at_int (HS.vrd 1 rfl) x48 (of_eq_true c51) (of_eq_true c52)
    go_wp2
    go_roundg k46
    case measure => have := HKk46.out; omega
    case rel => exact ⟨_, _, rfl, rfl, H, ⟨by have := HKk46.out; omega⟩, HS.pick [0, 1] (by decide) (by rfl)⟩
   replace H := zneg c50 H
   replace c50 := eq_false c50
   (try go_wp2)
   replace H := zbind H; obtain ⟨t201001, ht201001, H⟩ := H
   by_cases c203001 : t201001 = true
   case neg =>
    replace H := zneg c203001 H
    replace c203001 := eq_false_of_ne_true c203001
    subst c203001
    refine dr_start [] HS #[false, false, false, false, false, false, false, false, false, false] (by kernel_rfl) rfl rfl impl_IntIn.tT7 (fun w58 HT HS HH => ?_)
    (try clear F)
    refine drq_of [(0, some 26)] ?_
    repeat (first | (refine drq_pure HT (v := ?_) (a' := ?_) rfl rfl (by kernel_rfl) (fun _ _ _ h => h) (.inl ⟨by rfl, ?_⟩) ?_ ?_; rotate_left; (intro w'; go_simp; with_reducible rfl); rotate_left; (simp only [Act.put, ptn]; rfl)))
    refine drq_end ?_
    refine dr_one 1 HT rfl (by kernel_rfl) (by decide) (fun K hK => ?_)
    refine goes_ Tryd.func82 (by kernel_rfl) rfl #[.int .i64 x47, .int .i64 0, .int .i64 1000000000] (by rfl) rfl rfl (by simp only [mpn]; rfl) ?_; refine (impl_within.calls ht201001.out).mono ?_; rintro _ wt201001 ⟨rfl, HQ⟩; refine ⟨_, rfl, ?_⟩; replace HS := HS.call HQ; clear HQ; (try clear F)
    (try simp only [hpn, hpm] at HS)
    have F := HS.boxes; simp only [bxn] at F
    refine hK.out _ _ ⟨_, HS⟩ (fun HH => ?_)
    clear hK K
    refine norm_ (a' := ?_) ?_ ?_
    rotate_left
    · show Act.put _ (some 27) _ = _; simp only [Act.put, ptn]; rfl
    refine drq_of [(2, some 28), (3, some 29), (4, some 30), (5, some 31), (6, some 32), (7, some 33), (8, some 34), (9, some 35)] ?_
    repeat (first | (refine drq_pure HT (v := ?_) (a' := ?_) rfl rfl (by kernel_rfl) (fun _ _ _ h => h) (.inl ⟨by rfl, ?_⟩) ?_ ?_; rotate_left; (intro w'; go_simp; with_reducible rfl); rotate_left; (simp only [Act.put, ptn]; rfl)) | (refine drq_pure HT (v := undef) (a' := ?_) rfl rfl (by kernel_rfl) (fun _ _ _ h => h) (.inr ⟨by rfl, rfl⟩) ?_ ?_; rotate_left; (simp only [Act.put, ptn]; rfl)))
    refine drq_end ?_
    refine done_ (done_of HT.out (by kernel_rfl)) ?_
    (try clear F)
    have F := HS.boxes; simp only [bxn] at F
    obtain ⟨rfl, rfl⟩ := zsome2 H
    go_wp2
    exact bodyPost_ret (results_list (rs := [.tmp 2, .tmp 3]) rfl (by simp) (.tmp (.tmp .nil))) rfl ⟨rfl, HS.pick [] (by decide) (by rfl)⟩
   replace H := zpos c203001 H
   subst c203001
   replace H := zbind H; obtain ⟨t206001, ht206001, H⟩ := H
   replace H := zbind H; obtain ⟨t207001, ht207001, H⟩ := H
   refine dr_start [] HS #[false, false, false, false, false, false, false, false, false, false] (by kernel_rfl) rfl rfl impl_IntIn.tT7 (fun w55 HT HS HH => ?_)
   (try clear F)
   refine drq_of [(0, some 26)] ?_
   repeat (first | (refine drq_pure HT (v := ?_) (a' := ?_) rfl rfl (by kernel_rfl) (fun _ _ _ h => h) (.inl ⟨by rfl, ?_⟩) ?_ ?_; rotate_left; (intro w'; go_simp; with_reducible rfl); rotate_left; (simp only [Act.put, ptn]; rfl)))
   refine drq_end ?_
   refine dr_one 1 HT rfl (by kernel_rfl) (by decide) (fun K hK => ?_)
   refine goes_ Tryd.func82 (by kernel_rfl) rfl #[.int .i64 x47, .int .i64 0, .int .i64 1000000000] (by rfl) rfl rfl (by simp only [mpn]; rfl) ?_; refine (impl_within.calls ht201001.out).mono ?_; rintro _ wt201001 ⟨rfl, HQ⟩; refine ⟨_, rfl, ?_⟩; replace HS := HS.call HQ; clear HQ; (try clear F)
   (try simp only [hpn, hpm] at HS)
   have F := HS.boxes; simp only [bxn] at F
   refine hK.out _ _ ⟨_, HS⟩ (fun HH => ?_)
   clear hK K
   refine norm_ (a' := ?_) ?_ ?_
   rotate_left
   · show Act.put _ (some 27) _ = _; simp only [Act.put, ptn]; rfl
   refine drq_of [(2, some 28), (3, some 29), (4, some 30), (5, some 31)] ?_
   repeat (first | (refine drq_pure HT (v := ?_) (a' := ?_) rfl rfl (by kernel_rfl) (fun _ _ _ h => h) (.inl ⟨by rfl, ?_⟩) ?_ ?_; rotate_left; (intro w'; go_simp; with_reducible rfl); rotate_left; (simp only [Act.put, ptn]; rfl)) | (refine drq_take HT HH (v := ?_) (a' := ?_) rfl rfl (by kernel_rfl) (fun _ _ _ h => h) (.inl ⟨by rfl, ?_⟩) ?_ ?_; rotate_left; (rintro w' ⟨rs', HS'⟩; have F := HS'.boxes; simp only [bxn, List.cons_append, List.nil_append] at F; go_simp; with_reducible rfl); rotate_left; (simp only [Act.put, ptn]; rfl)))
   refine drq_end ?_
   refine dr_one 6 HT rfl (by kernel_rfl) (by decide) (fun K hK => ?_)
   refine goes_ Tryd.func88 (by kernel_rfl) rfl #[.int .i64 x47] (by rfl) rfl rfl (by simp only [mpn]; rfl) ?_; refine (impl_IntItem.calls ht206001.out).mono ?_; rintro _ wt206001 ⟨v206002, rfl, HQ⟩; refine ⟨_, rfl, ?_⟩; replace HS := HS.call HQ; clear HQ; (try clear F); obtain ⟨B206002, d206002, rfl, m206002⟩ := HS.form 2 rfl
   (try simp only [hpn, hpm] at HS)
   have F := HS.boxes; simp only [bxn] at F
   refine hK.out _ _ ⟨_, HS⟩ (fun HH => ?_)
   clear hK K
   refine norm_ (a' := ?_) ?_ ?_
   rotate_left
   · show Act.put _ (some 32) _ = _; simp only [Act.put, ptn]; rfl
   refine dr_one 7 HT rfl (by kernel_rfl) (by decide) (fun K hK => ?_)
   refine goes_ Tryd.func110 (by kernel_rfl) rfl #[.agg #[.int .i64 a0.f0, .string a0.f1, .slice Ap0 a0.f2.length cp0], .agg #[.int .i64 t206001.f0, .string t206001.f1, .slice B206002 t206001.f2.length d206002]] (by rfl) rfl rfl (by simp only [mpn]; rfl) ?_; refine (impl_SameItem.calls ht207001.out (HS.ro gp0) lp0 (HS.rd 2 rfl) m206002).mono ?_; rintro _ wt207001 ⟨rfl, HQ⟩; refine ⟨_, rfl, ?_⟩; replace HS := HS.call HQ; clear HQ; (try clear F)
   (try simp only [hpn, hpm] at HS)
   have F := HS.boxes; simp only [bxn] at F
   refine hK.out _ _ ⟨_, HS⟩ (fun HH => ?_)
   clear hK K
   refine norm_ (a' := ?_) ?_ ?_
   rotate_left
   · show Act.put _ (some 33) _ = _; simp only [Act.put, ptn]; rfl
   refine drq_of [(8, some 34), (9, some 35)] ?_
   repeat (first | (refine drq_pure HT (v := ?_) (a' := ?_) rfl rfl (by kernel_rfl) (fun _ _ _ h => h) (.inl ⟨by rfl, ?_⟩) ?_ ?_; rotate_left; (intro w'; go_simp; with_reducible rfl); rotate_left; (simp only [Act.put, ptn]; rfl)))
   refine drq_end ?_
   refine done_ (done_of HT.out (by kernel_rfl)) ?_
   (try clear F)
   have F := HS.boxes; simp only [bxn] at F
   by_cases c57 : t207001 = true
   case pos =>
    replace H := zpos c57 H
    subst c57
    (try simp only [dcn, if_true, Bool.false_eq_true, if_false])
    obtain ⟨rfl, rfl⟩ := zsome2 H
    go_wp2
    exact bodyPost_ret (results_list (rs := [.tmp 2, .tmp 3]) rfl (by simp) (.tmp (.tmp .nil))) rfl ⟨rfl, HS.pick [] (by decide) (by rfl)⟩
   replace H := zneg c57 H
   replace c57 := eq_false_of_ne_true c57
   subst c57
   (try simp only [dcn, if_true, Bool.false_eq_true, if_false])
   obtain ⟨rfl, rfl⟩ := zsome2 H
   go_wp2
   exact bodyPost_ret (results_list (rs := [.tmp 2, .tmp 3]) rfl (by simp) (.tmp (.tmp .nil))) rfl ⟨rfl, HS.pick [] (by decide) (by rfl)⟩
/-! ### impl_opener_num_0: function 55 -/
def impl_opener_num_0.f (k : Nat) (a0 : S86) (a1 : S65) : Option (Int × S86) := ((impl_IntIn.f k a1).bind fun t3 => (if a0.f0 = true then (some (t3.1, (⟨true⟩ : S86))) else (some (t3.1, (⟨(!t3.2)⟩ : S86)))))
set_option maxHeartbeats 16000000 in
theorem impl_opener_num_0.calls {k : Nat} {a0 : S86} {a1 : S65} {A : FP} {p0 : Nat} {Ap1 : Option Addr} {np1 cp1 : Nat} {wv : World} {r1 : Int} {r2 : S86} {w : World} (h : impl_opener_num_0.f k a0 a1 = some (r1, r2)) (gp1 : k65.C wv Ap1 np1 a1.f2) (lp1 : np1 ≤ cp1) (hV : View A w wv) (HS : Hp A w w [.box p0 [.bool a0.f0] 86]) :
    Calls Tryd.prog 55 #[.pointer (some ⟨p0, 0, none⟩), .agg #[.int .i64 a1.f0, .string a1.f1, .slice Ap1 np1 cp1]] w (fun e w' => e = .returned (.int .i64 r1) ∧ Hp A w w' [.box p0 [.bool r2.f0] 86]) := by
 obtain rfl := C_len gp1
 have H := Aside0.mk h
 clear h
 unfold impl_opener_num_0.f at H
 go_enter Tryd.func55, Tryd.ntmps55
 replace H := zbind H; obtain ⟨t3, ht3, H⟩ := H
 by_cases c5 : a0.f0 = true
 case pos =>
  replace H := zpos c5 H
  obtain ⟨rfl, rfl⟩ := zsome2 H
  go_wp2_with (first | ((with_reducible refine gate_dst (N := 3) rfl ?_); refine ev_box rfl HS (by first | (go_simp; done) | (go_simp; rfl)) rfl ?_; clear HS; (try clear F); intro g3 w3 HS; (try simp only [hpn, hpm] at HS); have F := HS.boxes; simp only [bxn] at F) | ((with_reducible refine gate_dst (N := 9) rfl ?_); refine ev_call rfl Tryd.func97 (by kernel_rfl) rfl #[.agg #[.int .i64 a1.f0, .string a1.f1, .slice Ap1 a1.f2.length cp1]] rfl (by simp only [mpn]; rfl) ?_; refine (impl_IntIn.calls ht3.out (hV.ro km65 HS gp1) lp1).mono ?_; rintro _ wt3 ⟨rfl, HQ⟩; refine ⟨_, rfl, ?_⟩; replace HS := HS.call HQ; clear HQ; (try clear F); (try simp only [hpn, hpm] at HS); have F := HS.boxes; simp only [bxn] at F; (try simp only [c5])) | ((with_reducible refine gate_store (p := 22) rfl ?_); refine ev_store rfl 0 0 HS (seg := [.bool true]) rfl rfl rfl rfl rfl rfl (by kernel_rfl) (by simp [wrt]) (by simp [Value.oneCell']) ?_; clear HS; (try clear F); intro w6 HS; (try simp only [hpn, hpm] at HS); have F := HS.boxes; simp only [bxn] at F))
  go_ret
  exact ⟨rfl, HS.pick [0] (by decide) (by rfl)⟩
 replace H := zneg c5 H
 replace c5 := eq_false_of_ne_true c5
 obtain ⟨rfl, rfl⟩ := zsome2 H
 go_wp2_with (first | ((with_reducible refine gate_dst (N := 3) rfl ?_); refine ev_box rfl HS (by first | (go_simp; done) | (go_simp; rfl)) rfl ?_; clear HS; (try clear F); intro g3 w3 HS; (try simp only [hpn, hpm] at HS); have F := HS.boxes; simp only [bxn] at F) | ((with_reducible refine gate_dst (N := 9) rfl ?_); refine ev_call rfl Tryd.func97 (by kernel_rfl) rfl #[.agg #[.int .i64 a1.f0, .string a1.f1, .slice Ap1 a1.f2.length cp1]] rfl (by simp only [mpn]; rfl) ?_; refine (impl_IntIn.calls ht3.out (hV.ro km65 HS gp1) lp1).mono ?_; rintro _ wt3 ⟨rfl, HQ⟩; refine ⟨_, rfl, ?_⟩; replace HS := HS.call HQ; clear HQ; (try clear F); (try simp only [hpn, hpm] at HS); have F := HS.boxes; simp only [bxn] at F; (try simp only [c5])) | ((with_reducible refine gate_store (p := 22) rfl ?_); refine ev_store rfl 0 0 HS (seg := [.bool (!t3.2)]) rfl rfl rfl rfl rfl rfl (by kernel_rfl) (by simp [wrt]) (by simp [Value.oneCell']) ?_; clear HS; (try clear F); intro w8 HS; (try simp only [hpn, hpm] at HS); have F := HS.boxes; simp only [bxn] at F))
 go_ret
 exact ⟨rfl, HS.pick [0] (by decide) (by rfl)⟩
/-! ### impl_opener_flag_0: function 61 -/
def impl_opener_flag_0.f (a0 : S86) (a1 : S65) : Option (Bool × S86) := ((impl_opener_text_0.f a0 a1 1).bind fun t3 => (some ((t3.1.toList == ([255] : List UInt8)), t3.2)))
set_option maxHeartbeats 16000000 in
theorem impl_opener_flag_0.calls {a0 : S86} {a1 : S65} {A : FP} {p0 : Nat} {Ap1 : Option Addr} {np1 cp1 : Nat} {wv : World} {r1 : Bool} {r2 : S86} {w : World} (h : impl_opener_flag_0.f a0 a1 = some (r1, r2)) (gp1 : k65.C wv Ap1 np1 a1.f2) (lp1 : np1 ≤ cp1) (hV : View A w wv) (HS : Hp A w w [.box p0 [.bool a0.f0] 86]) :
    Calls Tryd.prog 61 #[.pointer (some ⟨p0, 0, none⟩), .agg #[.int .i64 a1.f0, .string a1.f1, .slice Ap1 np1 cp1]] w (fun e w' => e = .returned (.bool r1) ∧ Hp A w w' [.box p0 [.bool r2.f0] 86]) := by
 obtain rfl := C_len gp1
 have H := Aside0.mk h
 clear h
 unfold impl_opener_flag_0.f at H
 go_enter Tryd.func61, Tryd.ntmps61
 replace H := zbind H; obtain ⟨t3, ht3, H⟩ := H
 obtain ⟨rfl, rfl⟩ := zsome2 H
 go_wp2_with (first | ((with_reducible refine gate_dst (N := 3) rfl ?_); refine ev_box rfl HS (by first | (go_simp; done) | (go_simp; rfl)) rfl ?_; clear HS; (try clear F); intro g3 w3 HS; (try simp only [hpn, hpm] at HS); have F := HS.boxes; simp only [bxn] at F) | ((with_reducible refine gate_dst (N := 7) rfl ?_); refine HS.lend [0] (by decide) [.box p0 [.bool a0.f0] 86] rfl (fun A' HL HD HA HB => ?_); refine ev_call rfl Tryd.func54 (by kernel_rfl) rfl #[.pointer (some ⟨p0, 0, none⟩), .agg #[.int .i64 a1.f0, .string a1.f1, .slice Ap1 a1.f2.length cp1], .int .i64 1] rfl (by simp only [mpn]; rfl) ?_; refine (impl_opener_text_0.calls ht3.out gp1 lp1 (hV.lend HS HL) HA).mono ?_; rintro _ wt3 ⟨rfl, HQ⟩; refine ⟨_, rfl, ?_⟩; replace HS := HB _ _ HQ (Nat.le_of_ble_eq_true rfl); clear HQ HA HB HL HD; (try simp only [hpn, hpm] at HS); (try clear F); (try simp only [hpn, hpm] at HS); have F := HS.boxes; simp only [bxn] at F))
 go_ret
 exact ⟨rfl, HS.pick [0] (by decide) (by rfl)⟩
end Go.Proofs.YtoaoncnbimcdgaaDoor.F
