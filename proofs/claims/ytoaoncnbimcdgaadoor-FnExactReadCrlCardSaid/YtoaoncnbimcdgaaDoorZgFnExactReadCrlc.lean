/- Functions of the program and of the law, and that their calls do what is written here. -/
import Derived.Test.YtoaoncnbimcdgaaDoorZgFnExactReadCrla
import Derived.Test.YtoaoncnbimcdgaaDoorZgFnExactReadCrlb
namespace Go.Proofs.YtoaoncnbimcdgaaDoor.F
open Go.RowKit Go.Proofs.YtoaoncnbimcdgaaDoorW.PrintWords Go.Proofs.YtoaoncnbimcdgaaDoorW.PrintLast Go.Proofs.YtoaoncnbimcdgaaDoorW.PrintMore Go.Proofs.YtoaoncnbimcdgaaDoor.Z
attribute [local go_sem] max2_int min2_int max_two min_two max_three min_three max_four min_four
set_option linter.unusedVariables false
set_option linter.unusedSimpArgs false
set_option maxRecDepth 100000
/-! ### spec_l09IntsIn: function 50 -/
def spec_l09IntsIn.l0 : Nat → (List Int) → Int → S65 → Option ((List Int))
  | 0, _, _, _ => none
  | k + 1, l18, x20, a0 => (if x20 < (a0.f2.length : Int) then (if 0 ≤ x20 then (if x20 < (a0.f2.length : Int) then ((spec_IntIn.f k (rd_T65 a0.f2 x20)).bind fun t26 => (if l18.length + 1 ≤ 17592186044416 then (lets (l18 ++ ([t26.1] : List Int)) fun y31 => (spec_l09IntsIn.l0 k y31 (wrap64 (x20 + 1)) a0)) else none)) else none) else none) else (some l18))
def spec_l09IntsIn.f (k : Nat) (a0 : S65) : Option ((List Int)) := (spec_l09IntsIn.l0 k ([] : List Int) 0 a0)
set_option maxHeartbeats 16000000 in
theorem spec_l09IntsIn.calls {k : Nat} {a0 : S65} {Ap0 : Option Addr} {np0 cp0 : Nat} {r : (List Int)} {w : World} (h : spec_l09IntsIn.f k a0 = some r) (gp0 : k65.C w Ap0 np0 a0.f2) (lp0 : np0 ≤ cp0) :
    Calls Tryd.prog 50 #[.agg #[.int .i64 a0.f0, .string a0.f1, .slice Ap0 np0 cp0]] w (fun e w' => ∃ v0_ : Value, e = .returned (v0_) ∧ Hp noFP w w' [.own (Zd.slice 3 (Zd.int .i64)) r [v0_]]) := by
 obtain rfl := C_len gp0
 have HS := Hp.start w
 have H := Aside0.mk h
 clear h
 unfold spec_l09IntsIn.f at H
 go_enter Tryd.func50, Tryd.ntmps50
 go_wp2_with (first | ((with_reducible refine gate_dst (N := 1) rfl ?_); refine ev_box rfl HS (by first | (go_simp; done) | (go_simp; rfl)) rfl ?_; clear HS; (try clear F); intro g1 w1 HS; (try simp only [hpn, hpm] at HS); have F := HS.boxes; simp only [boxFacts, and_true] at F) | ((with_reducible refine gate_dst (N := 7) rfl ?_); refine ev_lit rfl (Zd.int .i64) [] ([] : List Int) [] HS (by first | (go_simp; done) | (go_simp; rfl)) rfl rfl (Nat.le_of_ble_eq_true rfl) MadeL.nil ?_; clear HS; (try clear F); intro v3 w3 HS; obtain ⟨B3, d3, rfl, m3⟩ := HS.formn 0 1 rfl rfl; (try simp only [hpn, hpm] at HS); have F := HS.boxes; simp only [boxFacts, and_true] at F))
 go_loopg [3, 4] k (fun kq v_3 v_4 w' => ∃ (l18 : List Int) (v19 : Value) (x20 : Int), v_3 = v19 ∧ v_4 = .int .i64 x20 ∧ Aside0 (spec_l09IntsIn.l0 kq l18 x20 a0 = some r) ∧ Aside0 (kq ≤ k) ∧ Hp noFP w w' [.box g1 [.int .i64 a0.f0, .string a0.f1, .slice Ap0 a0.f2.length cp0] 65, .own (Zd.slice 3 (Zd.int .i64)) l18 [v19]])
 case atStart => exact ⟨_, _, _, rfl, rfl, H, ⟨Nat.le_refl _⟩, HS⟩
 case round =>
  clear HS H; (try clear F)
  obtain ⟨l18, v19, x20, rfl, rfl, H, HKk17, HS⟩ := hrel
  obtain ⟨B19, d19, rfl, m19⟩ := HS.form 1 rfl
  have F := HS.boxes; simp only [boxFacts, and_true] at F
  cases gk with
  | zero => exact absurd H.out (by simp [spec_l09IntsIn.l0])
  | succ k17 =>
   simp only [spec_l09IntsIn.l0] at H
   by_cases c22 : x20 < (a0.f2.length : Int)
   · replace H := zpos c22 H
     replace c22 := eq_true c22
     by_cases c23 : 0 ≤ x20
     case neg => exact zno c23 H
     replace H := zpos c23 H
     replace c23 := eq_true c23
     by_cases c24 : x20 < (a0.f2.length : Int)
     case neg => exact zno c24 H
     replace H := zpos c24 H
     replace c24 := eq_true c24
     obtain ⟨ad25, B25_2, d25_2, rfl, e25_0, e25_1, e25_2, m25_2, y25_2⟩ := at_T65 gp0 x20 (of_eq_true c23) (of_eq_true c24)
     have e25_0_25 := (HS.keepc e25_0)
     have e25_1_25 := (HS.keepc e25_1)
     have e25_2_25 := (HS.keepc e25_2)
     replace H := zbind H; obtain ⟨t26, ht26, H⟩ := H
     by_cases c30 : l18.length + 1 ≤ 17592186044416
     case neg => exact zno c30 H
     replace H := zpos c30 H
     replace c30 := eq_true c30
     replace H := zlets H; obtain ⟨y31, e_y31, H⟩ := H
     go_wp2_with (first | ((with_reducible refine gate_dst (N := 21) rfl ?_); refine ev_call rfl Tryd.func49 (by kernel_rfl) rfl #[.agg #[.int .i64 ((rd_T65 a0.f2 x20).f0), .string ((rd_T65 a0.f2 x20).f1), .slice B25_2 (rd_T65 a0.f2 x20).f2.length d25_2]] rfl (by simp only [List.map_toArray, List.map_cons, List.map_nil]; rfl) ?_; refine (spec_IntIn.calls ht26.out (HS.ro y25_2) m25_2).mono ?_; rintro _ wt26 ⟨rfl, HQ⟩; refine ⟨_, rfl, ?_⟩; replace HS := HS.call HQ; clear HQ; (try clear F); (try simp only [hpn, hpm] at HS); have F := HS.boxes; simp only [boxFacts, and_true] at F) | ((with_reducible refine gate_dst (N := 26) rfl ?_); refine ev_lit rfl (Zd.int .i64) [] ([t26.1] : List Int) ([.int .i64 t26.1] ++ []) HS (by first | (go_simp; done) | (go_simp; rfl)) rfl rfl (Nat.le_of_ble_eq_true rfl) (MadeL.cons (js1 := []) (c := [.int .i64 t26.1]) rfl (made_flat (fun _ => rfl)) MadeL.nil (by decide)) ?_; clear HS; (try clear F); intro v28 w28 HS; obtain ⟨B28, d28, rfl, m28⟩ := HS.formn 1 2 rfl rfl; (try simp only [hpn, hpm] at HS); have F := HS.boxes; simp only [boxFacts, and_true] at F) | ((with_reducible refine gate_dst (N := 27) rfl ?_); refine ev_append rfl (Zd.int .i64) 1 2 HS rfl rfl (by decide) rfl rfl rfl Tryd.underlying22 info3 rfl (by decide) (by decide) (by have := of_eq_true c30; first | omega | (simp only [List.length_cons, List.length_nil, List.length_append, Nat.zero_add] at this ⊢; omega)) ?_; clear HS; (try clear F); intro v31 w31 HS; rw [← e_y31.out] at HS; obtain ⟨B31, d31, rfl, m31⟩ := HS.form 3 rfl; (try simp only [hpn, hpm] at HS); have F := HS.boxes; simp only [boxFacts, and_true] at F))
     go_roundg k17
     case measure => have := HKk17.out; omega
     case rel => exact ⟨_, _, _, rfl, rfl, H, ⟨by have := HKk17.out; omega⟩, HS.pick [0, 3] (by decide) (by rfl)⟩
   · replace H := zneg c22 H
     replace c22 := eq_false c22
     obtain rfl := zsome H
     go_wp2
     exact bodyPost_ret (results_single rfl (.tmp .nil)) rfl ⟨_, rfl, HS.pick [1] (by decide) (by rfl)⟩
/-! ### spec_l09Bytes: function 37 -/
def spec_l09Bytes.f (a0 : ByteArray) : Option (S65) := (some (⟨4, a0, ([] : List S65)⟩ : S65))
set_option maxHeartbeats 16000000 in
theorem spec_l09Bytes.calls {a0 : ByteArray} {r : S65} {w : World} (h : spec_l09Bytes.f a0 = some r) :
    Calls Tryd.prog 37 #[.string a0] w (fun e w' => ∃ v0_ : Value, e = .returned (.agg #[.int .i64 r.f0, .string r.f1, v0_]) ∧ Hp noFP w w' [.own (Zd.slice 65 q65) r.f2 [v0_]]) := by
 have HS := Hp.start w
 have H := Aside0.mk h
 clear h
 unfold spec_l09Bytes.f at H
 go_enter Tryd.func37, Tryd.ntmps37
 obtain rfl := zsome H
 go_wp2_with (first | ((with_reducible refine gate_dst (N := 2) rfl ?_); refine ev_box rfl HS (by first | (go_simp; done) | (go_simp; rfl)) rfl ?_; clear HS; (try clear F); intro g2 w2 HS; (try simp only [hpn, hpm] at HS); have F := HS.boxes; simp only [boxFacts, and_true] at F) | ((with_reducible refine gate_store (p := 2) rfl ?_); refine ev_store rfl 0 0 HS (seg := [.int .i64 4, .string a0, .slice none 0 0]) rfl rfl rfl rfl rfl rfl (by kernel_rfl) (by simp [wrt]) (by simp [Value.oneCell']) ?_; clear HS; (try clear F); intro w3 HS; (try simp only [hpn, hpm] at HS); have F := HS.boxes; simp only [boxFacts, and_true] at F))
 replace HS := HS.nil 65 q65
 exact bodyPost_ret (results_single rfl (.cell _ _ _ _ _ rfl (HS.boxAt (i := 0) rfl) Tryd.underlying65 rfl (by kernel_rfl) .nil)) rfl ⟨_, rfl, HS.pick [1] (by decide) (by rfl)⟩
/-! ### spec_l09Num: function 68 -/
def spec_l09Num.f (a0 : Int) : Option (Bool) := ((spec_l01In.f a0 0 9999).bind fun t1 => (some t1))
set_option maxHeartbeats 16000000 in
theorem spec_l09Num.calls {a0 : Int} {r : Bool} {w : World} (h : spec_l09Num.f a0 = some r) :
    Calls Tryd.prog 68 #[.int .i64 a0] w (fun e w' => e = .returned (.bool r) ∧ Hp noFP w w' []) := by
 have HS := Hp.start w
 have H := Aside0.mk h
 clear h
 unfold spec_l09Num.f at H
 go_enter Tryd.func68, Tryd.ntmps68
 replace H := zbind H; obtain ⟨t1, ht1, H⟩ := H
 obtain rfl := zsome H
 go_wp2_with (first | ((with_reducible refine gate_dst (N := 4) rfl ?_); refine ev_call rfl Tryd.func70 (by kernel_rfl) rfl #[.int .i64 a0, .int .i64 0, .int .i64 9999] rfl (by simp only [List.map_toArray, List.map_cons, List.map_nil]; rfl) ?_; refine (spec_l01In.calls ht1.out).mono ?_; rintro _ wt1 ⟨rfl, HQ⟩; refine ⟨_, rfl, ?_⟩; replace HS := HS.call HQ; clear HQ; (try clear F); (try simp only [hpn, hpm] at HS)))
 go_ret
 exact ⟨rfl, HS.pick [] (by decide) (by rfl)⟩
/-! ### spec_NameOk: function 69 -/
def spec_NameOk.l0 : Nat → Int → Int → ByteArray → Option (Bool)
  | 0, _, _, _ => none
  | k + 1, x14, x15, a0 => (if x15 < (a0.size : Int) then (if 0 ≤ x15 then (if x15 < (a0.size : Int) then (if 97 ≤ (bt a0 x15) then (if (bt a0 x15) ≤ 122 then (spec_NameOk.l0 k (wrap64 (x14 + 1)) (wrap64 (x15 + 1)) a0) else (if (bt a0 x15) = 46 then (if 0 < x14 then (spec_NameOk.l0 k 0 (wrap64 (x15 + 1)) a0) else (some false)) else (some false))) else (if (bt a0 x15) = 46 then (if 0 < x14 then (spec_NameOk.l0 k 0 (wrap64 (x15 + 1)) a0) else (some false)) else (some false))) else none) else none) else ((spec_l01In.f (a0.size : Int) 1 20).bind fun t30 => (if t30 = true then (some (decide (0 < x14))) else (some false))))
def spec_NameOk.f (k : Nat) (a0 : ByteArray) : Option (Bool) := (spec_NameOk.l0 k 0 0 a0)
set_option maxHeartbeats 16000000 in
theorem spec_NameOk.calls {k : Nat} {a0 : ByteArray} {r : Bool} {w : World} (h : spec_NameOk.f k a0 = some r) :
    Calls Tryd.prog 69 #[.string a0] w (fun e w' => e = .returned (.bool r) ∧ Hp noFP w w' []) := by
 have HS := Hp.start w
 have H := Aside0.mk h
 clear h
 unfold spec_NameOk.f at H
 go_enter Tryd.func69, Tryd.ntmps69
 go_wp2
 go_loopg [3, 4] k (fun kq v_3 v_4 w' => ∃ (x14 : Int) (x15 : Int), v_3 = .int .i64 x14 ∧ v_4 = .int .i64 x15 ∧ Aside0 (spec_NameOk.l0 kq x14 x15 a0 = some r) ∧ Aside0 (kq ≤ k) ∧ Hp noFP w w' [])
 case atStart => exact ⟨_, _, rfl, rfl, H, ⟨Nat.le_refl _⟩, HS⟩
 case round =>
  clear HS H; (try clear F)
  obtain ⟨x14, x15, rfl, rfl, H, HKk13, HS⟩ := hrel
  cases gk with
  | zero => exact absurd H.out (by simp [spec_NameOk.l0])
  | succ k13 =>
   simp only [spec_NameOk.l0] at H
   by_cases c17 : x15 < (a0.size : Int)
   · replace H := zpos c17 H
     replace c17 := eq_true c17
     by_cases c18 : 0 ≤ x15
     case neg => exact zno c18 H
     replace H := zpos c18 H
     replace c18 := eq_true c18
     by_cases c19 : x15 < (a0.size : Int)
     case neg => exact zno c19 H
     replace H := zpos c19 H
     replace c19 := eq_true c19
     have hx20 := bt_at a0 x15
     by_cases c21 : 97 ≤ (bt a0 x15)
     · replace H := zpos c21 H
       replace c21 := eq_true c21
       have hx22 := bt_at a0 x15
       by_cases c23 : (bt a0 x15) ≤ 122
       · replace H := zpos c23 H
         replace c23 := eq_true c23
         go_wp2
         go_roundg k13
         case measure => have := HKk13.out; omega
         case rel => exact ⟨_, _, rfl, rfl, H, ⟨by have := HKk13.out; omega⟩, HS.pick [] (by decide) (by rfl)⟩
       · replace H := zneg c23 H
         replace c23 := eq_false c23
         have hx24 := bt_at a0 x15
         by_cases c25 : (bt a0 x15) = 46
         · replace H := zpos c25 H
           have c25a := beq_iff_eq.mpr c25
           have c25b := bne_eq_false_iff_eq.mpr c25
           clear c25
           by_cases c26 : 0 < x14
           · replace H := zpos c26 H
             replace c26 := eq_true c26
             go_wp2
             go_roundg k13
             case measure => have := HKk13.out; omega
             case rel => exact ⟨_, _, rfl, rfl, H, ⟨by have := HKk13.out; omega⟩, HS.pick [] (by decide) (by rfl)⟩
           · replace H := zneg c26 H
             replace c26 := eq_false c26
             obtain rfl := zsome H
             go_wp2
             go_ret
             exact ⟨rfl, HS.pick [] (by decide) (by rfl)⟩
         · replace H := zneg c25 H
           have c25a := beq_eq_false_iff_ne.mpr c25
           have c25b := bne_iff_ne.mpr c25
           clear c25
           obtain rfl := zsome H
           go_wp2
           go_ret
           exact ⟨rfl, HS.pick [] (by decide) (by rfl)⟩
     · replace H := zneg c21 H
       replace c21 := eq_false c21
       have hx27 := bt_at a0 x15
       by_cases c28 : (bt a0 x15) = 46
       · replace H := zpos c28 H
         have c28a := beq_iff_eq.mpr c28
         have c28b := bne_eq_false_iff_eq.mpr c28
         clear c28
         by_cases c29 : 0 < x14
         · replace H := zpos c29 H
           replace c29 := eq_true c29
           go_wp2
           go_roundg k13
           case measure => have := HKk13.out; omega
           case rel => exact ⟨_, _, rfl, rfl, H, ⟨by have := HKk13.out; omega⟩, HS.pick [] (by decide) (by rfl)⟩
         · replace H := zneg c29 H
           replace c29 := eq_false c29
           obtain rfl := zsome H
           go_wp2
           go_ret
           exact ⟨rfl, HS.pick [] (by decide) (by rfl)⟩
       · replace H := zneg c28 H
         have c28a := beq_eq_false_iff_ne.mpr c28
         have c28b := bne_iff_ne.mpr c28
         clear c28
         obtain rfl := zsome H
         go_wp2
         go_ret
         exact ⟨rfl, HS.pick [] (by decide) (by rfl)⟩
   · replace H := zneg c17 H
     replace c17 := eq_false c17
     replace H := zbind H; obtain ⟨t30, ht30, H⟩ := H
     by_cases c32 : t30 = true
     · replace H := zpos c32 H
       subst c32
       obtain rfl := zsome H
       go_wp2_with (first | ((with_reducible refine gate_dst (N := 35) rfl ?_); refine ev_call rfl Tryd.func70 (by kernel_rfl) rfl #[.int .i64 (a0.size : Int), .int .i64 1, .int .i64 20] rfl (by simp only [List.map_toArray, List.map_cons, List.map_nil]; rfl) ?_; refine (spec_l01In.calls ht30.out).mono ?_; rintro _ wt30 ⟨rfl, HQ⟩; refine ⟨_, rfl, ?_⟩; replace HS := HS.call HQ; clear HQ; (try clear F); (try simp only [hpn, hpm] at HS)))
       go_ret
       exact ⟨rfl, HS.pick [] (by decide) (by rfl)⟩
     · replace H := zneg c32 H
       replace c32 := eq_false_of_ne_true c32
       subst c32
       obtain rfl := zsome H
       go_wp2_with (first | ((with_reducible refine gate_dst (N := 35) rfl ?_); refine ev_call rfl Tryd.func70 (by kernel_rfl) rfl #[.int .i64 (a0.size : Int), .int .i64 1, .int .i64 20] rfl (by simp only [List.map_toArray, List.map_cons, List.map_nil]; rfl) ?_; refine (spec_l01In.calls ht30.out).mono ?_; rintro _ wt30 ⟨rfl, HQ⟩; refine ⟨_, rfl, ?_⟩; replace HS := HS.call HQ; clear HQ; (try clear F); (try simp only [hpn, hpm] at HS)))
       go_ret
       exact ⟨rfl, HS.pick [] (by decide) (by rfl)⟩
end Go.Proofs.YtoaoncnbimcdgaaDoor.F
