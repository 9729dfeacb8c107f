/- Functions of the program and of the law, and that their calls do what is written here. -/
import Derived.Test.YtoaoncnbimcdgaaZgFnExactReadReplya
namespace Go.Proofs.Ytoaoncnbimcdgaa.F
open Go.RowKit Go.Proofs.YtoaoncnbimcdgaaW.PrintWords Go.Proofs.YtoaoncnbimcdgaaW.PrintLast Go.Proofs.YtoaoncnbimcdgaaW.PrintMore Go.Proofs.Ytoaoncnbimcdgaa.Z
attribute [local go_sem] max2_int min2_int max_two min_two max_three min_three max_four min_four
set_option linter.unusedVariables false
set_option linter.unusedSimpArgs false
set_option maxRecDepth 100000
/-! ### spec_IntIn: function 55 -/
def spec_IntIn.l0 : Nat → Int → Int → S100 → Option (Int × Bool)
  | 0, _, _, _ => none
  | k + 1, x14, x15, a0 => (if x15 < (a0.f1.size : Int) then (if 0 ≤ x15 then (if x15 < (a0.f1.size : Int) then (spec_IntIn.l0 k (wrap64 ((wrap64 (256 * x14)) + (wrap64 (bt a0.f1 x15)))) (wrap64 (x15 + 1)) a0) else none) else none) else (if 1000000000 < x14 then (some (0, false)) else (some (x14, true))))
def spec_IntIn.f (k : Nat) (a0 : S100) : Option (Int × Bool) := (if a0.f0 = 2 then ((spec_ItemOk.f k a0).bind fun t4 => (if t4 = true then (spec_IntIn.l0 k 0 0 a0) else (some (0, false)))) else (some (0, false)))
set_option maxHeartbeats 16000000 in
theorem spec_IntIn.calls {k : Nat} {a0 : S100} {Ap0 : Option Addr} {np0 cp0 : Nat} {r1 : Int} {r2 : Bool} {w : World} (h : spec_IntIn.f k a0 = some (r1, r2)) (gp0 : k100.C w Ap0 np0 a0.f2) (lp0 : np0 ≤ cp0) :
    Calls Try.prog 55 #[.agg #[.int .i64 a0.f0, .string a0.f1, .slice Ap0 np0 cp0]] w (fun e w' => e = .returned (.tuple #[.int .i64 r1, .bool r2]) ∧ Hp noFP w w' []) := by
 obtain rfl := C_len gp0
 have HS := Hp.start w
 have H := Aside0.mk h
 clear h
 unfold spec_IntIn.f at H
 go_enter Try.func55, Try.ntmps55
 by_cases c3 : a0.f0 = 2
 · replace H := zpos c3 H
   have c3a := beq_iff_eq.mpr c3
   have c3b := bne_eq_false_iff_eq.mpr c3
   clear c3
   replace H := zbind H; obtain ⟨t4, ht4, H⟩ := H
   go_upto_if 13 with (first | ((with_reducible refine gate_dst (N := 1) rfl ?_); refine ev_box rfl HS (by first | (go_simp; done) | (go_simp; rfl)) rfl ?_; clear HS; (try clear F); intro g1 w1 HS; (try simp only [hpn, hpm] at HS); have F := HS.boxes; simp only [boxFacts, and_true] at F) | ((with_reducible refine gate_dst (N := 11) rfl ?_); refine gate_guard (by rfl) ?_; refine ev_call rfl Try.func113 (by kernel_rfl) rfl #[.agg #[.int .i64 a0.f0, .string a0.f1, .slice Ap0 a0.f2.length cp0]] rfl (by simp only [List.map_toArray, List.map_cons, List.map_nil]; rfl) ?_; refine (spec_ItemOk.calls ht4.out (HS.ro gp0) lp0).mono ?_; rintro _ wt4 ⟨rfl, HQ⟩; refine ⟨_, rfl, ?_⟩; replace HS := HS.call HQ; clear HQ; (try clear F); (try simp only [hpn, hpm] at HS); have F := HS.boxes; simp only [boxFacts, and_true] at F))
   by_cases c6 : t4 = true
   · replace H := zpos c6 H
     subst c6
     (try simp only [dcn, if_true, Bool.false_eq_true, if_false])
     go_wp2
     go_loopg [4, 5] k (fun kq v_4 v_5 w' => ∃ (x14 : Int) (x15 : Int), v_4 = .int .i64 x14 ∧ v_5 = .int .i64 x15 ∧ Aside0 (spec_IntIn.l0 kq x14 x15 a0 = some (r1, r2)) ∧ Aside0 (kq ≤ k) ∧ Hp noFP w w' [.box g1 [.int .i64 a0.f0, .string a0.f1, .slice Ap0 a0.f2.length cp0] 100])
     case atStart => exact ⟨_, _, rfl, rfl, H, ⟨Nat.le_refl _⟩, HS⟩
     case round =>
      clear HS H; (try clear F)
      obtain ⟨x14, x15, rfl, rfl, H, HKk13, HS⟩ := hrel
      have F := HS.boxes; simp only [boxFacts, and_true] at F
      cases gk with
      | zero => exact absurd H.out (by simp [spec_IntIn.l0])
      | succ k13 =>
       simp only [spec_IntIn.l0] at H
       by_cases c17 : x15 < (a0.f1.size : Int)
       · replace H := zpos c17 H
         replace c17 := eq_true c17
         by_cases c18 : 0 ≤ x15
         case neg => exact zno c18 H
         replace H := zpos c18 H
         replace c18 := eq_true c18
         by_cases c19 : x15 < (a0.f1.size : Int)
         case neg => exact zno c19 H
         replace H := zpos c19 H
         replace c19 := eq_true c19
         have hx20 := bt_at a0.f1 x15
         go_wp2
         go_roundg k13
         case measure => have := HKk13.out; omega
         case rel => exact ⟨_, _, rfl, rfl, H, ⟨by have := HKk13.out; omega⟩, HS.pick [0] (by decide) (by rfl)⟩
       · replace H := zneg c17 H
         replace c17 := eq_false c17
         by_cases c21 : 1000000000 < x14
         · replace H := zpos c21 H
           replace c21 := eq_true c21
           obtain ⟨rfl, rfl⟩ := zsome2 H
           go_wp2
           exact bodyPost_ret (results_list (rs := [.tmp 2, .tmp 3]) rfl (by simp) (.tmp (.tmp .nil))) rfl ⟨rfl, HS.pick [] (by decide) (by rfl)⟩
         · replace H := zneg c21 H
           replace c21 := eq_false c21
           obtain ⟨rfl, rfl⟩ := zsome2 H
           go_wp2
           exact bodyPost_ret (results_list (rs := [.tmp 2, .tmp 3]) rfl (by simp) (.tmp (.tmp .nil))) rfl ⟨rfl, HS.pick [] (by decide) (by rfl)⟩
   · replace H := zneg c6 H
     replace c6 := eq_false_of_ne_true c6
     subst c6
     (try simp only [dcn, if_true, Bool.false_eq_true, if_false])
     obtain ⟨rfl, rfl⟩ := zsome2 H
     go_wp2
     exact bodyPost_ret (results_list (rs := [.tmp 2, .tmp 3]) rfl (by simp) (.tmp (.tmp .nil))) rfl ⟨rfl, HS.pick [] (by decide) (by rfl)⟩
 · replace H := zneg c3 H
   have c3a := beq_eq_false_iff_ne.mpr c3
   have c3b := bne_iff_ne.mpr c3
   clear c3
   obtain ⟨rfl, rfl⟩ := zsome2 H
   go_wp2_with (first | ((with_reducible refine gate_dst (N := 1) rfl ?_); refine ev_box rfl HS (by first | (go_simp; done) | (go_simp; rfl)) rfl ?_; clear HS; (try clear F); intro g1 w1 HS; (try simp only [hpn, hpm] at HS); have F := HS.boxes; simp only [boxFacts, and_true] at F))
   exact bodyPost_ret (results_list (rs := [.tmp 2, .tmp 3]) rfl (by simp) (.tmp (.tmp .nil))) rfl ⟨rfl, HS.pick [] (by decide) (by rfl)⟩
/-! ### spec_l09TextsIn: function 56 -/
def spec_l09TextsIn.l0 : Nat → (List ByteArray) → Int → S100 → Option ((List ByteArray))
  | 0, _, _, _ => none
  | k + 1, l13, x15, a0 => (if x15 < (a0.f2.length : Int) then (if 0 ≤ x15 then (if x15 < (a0.f2.length : Int) then (if l13.length + 1 ≤ 8796093022208 then (lets (l13 ++ ([(rd_T100 a0.f2 x15).f1] : List ByteArray)) fun y24 => (spec_l09TextsIn.l0 k y24 (wrap64 (x15 + 1)) a0)) else none) else none) else none) else (some l13))
def spec_l09TextsIn.f (k : Nat) (a0 : S100) : Option ((List ByteArray)) := (spec_l09TextsIn.l0 k ([] : List ByteArray) 0 a0)
set_option maxHeartbeats 16000000 in
theorem spec_l09TextsIn.calls {k : Nat} {a0 : S100} {Ap0 : Option Addr} {np0 cp0 : Nat} {r : (List ByteArray)} {w : World} (h : spec_l09TextsIn.f k a0 = some r) (gp0 : k100.C w Ap0 np0 a0.f2) (lp0 : np0 ≤ cp0) :
    Calls Try.prog 56 #[.agg #[.int .i64 a0.f0, .string a0.f1, .slice Ap0 np0 cp0]] w (fun e w' => ∃ v0_ : Value, e = .returned (v0_) ∧ Hp noFP w w' [.own (Zd.slice 9 Zd.string) r [v0_]]) := by
 obtain rfl := C_len gp0
 have HS := Hp.start w
 have H := Aside0.mk h
 clear h
 unfold spec_l09TextsIn.f at H
 go_enter Try.func56, Try.ntmps56
 go_wp2_with (first | ((with_reducible refine gate_dst (N := 1) rfl ?_); refine ev_box rfl HS (by first | (go_simp; done) | (go_simp; rfl)) rfl ?_; clear HS; (try clear F); intro g1 w1 HS; (try simp only [hpn, hpm] at HS); have F := HS.boxes; simp only [boxFacts, and_true] at F) | ((with_reducible refine gate_dst (N := 5) rfl ?_); refine ev_lit rfl Zd.string [] ([] : List ByteArray) [] HS (by first | (go_simp; done) | (go_simp; rfl)) rfl rfl (Nat.le_of_ble_eq_true rfl) MadeL.nil ?_; clear HS; (try clear F); intro v3 w3 HS; obtain ⟨B3, d3, rfl, m3⟩ := HS.formn 0 1 rfl rfl; (try simp only [hpn, hpm] at HS); have F := HS.boxes; simp only [boxFacts, and_true] at F))
 go_loopg [3, 4] k (fun kq v_3 v_4 w' => ∃ (l13 : List ByteArray) (v14 : Value) (x15 : Int), v_3 = v14 ∧ v_4 = .int .i64 x15 ∧ Aside0 (spec_l09TextsIn.l0 kq l13 x15 a0 = some r) ∧ Aside0 (kq ≤ k) ∧ Hp noFP w w' [.box g1 [.int .i64 a0.f0, .string a0.f1, .slice Ap0 a0.f2.length cp0] 100, .own (Zd.slice 9 Zd.string) l13 [v14]])
 case atStart => exact ⟨_, _, _, rfl, rfl, H, ⟨Nat.le_refl _⟩, HS⟩
 case round =>
  clear HS H; (try clear F)
  obtain ⟨l13, v14, x15, rfl, rfl, H, HKk12, HS⟩ := hrel
  obtain ⟨B14, d14, rfl, m14⟩ := HS.form 1 rfl
  have F := HS.boxes; simp only [boxFacts, and_true] at F
  cases gk with
  | zero => exact absurd H.out (by simp [spec_l09TextsIn.l0])
  | succ k12 =>
   simp only [spec_l09TextsIn.l0] at H
   by_cases c17 : x15 < (a0.f2.length : Int)
   · replace H := zpos c17 H
     replace c17 := eq_true c17
     by_cases c18 : 0 ≤ x15
     case neg => exact zno c18 H
     replace H := zpos c18 H
     replace c18 := eq_true c18
     by_cases c19 : x15 < (a0.f2.length : Int)
     case neg => exact zno c19 H
     replace H := zpos c19 H
     replace c19 := eq_true c19
     obtain ⟨ad20, B20_2, d20_2, rfl, e20_0, e20_1, e20_2, m20_2, y20_2⟩ := at_T100 gp0 x15 (of_eq_true c18) (of_eq_true c19)
     have e20_0_20 := (HS.keepc e20_0)
     have e20_1_20 := (HS.keepc e20_1)
     have e20_2_20 := (HS.keepc e20_2)
     by_cases c23 : l13.length + 1 ≤ 8796093022208
     case neg => exact zno c23 H
     replace H := zpos c23 H
     replace c23 := eq_true c23
     replace H := zlets H; obtain ⟨y24, e_y24, H⟩ := H
     go_wp2_with (first | ((with_reducible refine gate_dst (N := 20) rfl ?_); refine ev_lit rfl Zd.string [] ([(rd_T100 a0.f2 x15).f1] : List ByteArray) ([.string ((rd_T100 a0.f2 x15).f1)] ++ []) HS (by first | (go_simp; done) | (go_simp; rfl)) rfl rfl (Nat.le_of_ble_eq_true rfl) (MadeL.cons (js1 := []) (c := [.string ((rd_T100 a0.f2 x15).f1)]) rfl (made_flat (fun _ => rfl)) MadeL.nil (by decide)) ?_; clear HS; (try clear F); intro v21 w21 HS; obtain ⟨B21, d21, rfl, m21⟩ := HS.formn 1 2 rfl rfl; (try simp only [hpn, hpm] at HS); have F := HS.boxes; simp only [boxFacts, and_true] at F) | ((with_reducible refine gate_dst (N := 21) rfl ?_); refine ev_append rfl Zd.string 1 2 HS rfl rfl (by decide) rfl rfl rfl Try.underlying73 info9 rfl (by decide) (by decide) (by have := of_eq_true c23; first | omega | (simp only [List.length_cons, List.length_nil, List.length_append, Nat.zero_add] at this ⊢; omega)) ?_; clear HS; (try clear F); intro v24 w24 HS; rw [← e_y24.out] at HS; obtain ⟨B24, d24, rfl, m24⟩ := HS.form 3 rfl; (try simp only [hpn, hpm] at HS); have F := HS.boxes; simp only [boxFacts, and_true] at F))
     go_roundg k12
     case measure => have := HKk12.out; omega
     case rel => exact ⟨_, _, _, rfl, rfl, H, ⟨by have := HKk12.out; omega⟩, HS.pick [0, 3] (by decide) (by rfl)⟩
   · replace H := zneg c17 H
     replace c17 := eq_false c17
     obtain rfl := zsome H
     go_wp2
     exact bodyPost_ret (results_single rfl (.tmp .nil)) rfl ⟨_, rfl, HS.pick [1] (by decide) (by rfl)⟩
/-! ### spec_l15Texts: function 156 -/
def spec_l15Texts.l0 : Nat → Int → (List ByteArray) → Int → Option (Bool)
  | 0, _, _, _ => none
  | k + 1, x4, a0, a1 => (if x4 < (a0.length : Int) then (if 0 ≤ x4 then (if x4 < (a0.length : Int) then (if 400 < ((rdOf ByteArray.empty a0 x4).size : Int) then (some false) else (spec_l15Texts.l0 k (wrap64 (x4 + 1)) a0 a1)) else none) else none) else (some (decide ((a0.length : Int) ≤ a1))))
def spec_l15Texts.f (k : Nat) (a0 : (List ByteArray)) (a1 : Int) : Option (Bool) := (spec_l15Texts.l0 k 0 a0 a1)
set_option maxHeartbeats 16000000 in
theorem spec_l15Texts.calls {k : Nat} {a0 : (List ByteArray)} {a1 : Int} {Ap0 : Option Addr} {np0 cp0 : Nat} {r : Bool} {w : World} (h : spec_l15Texts.f k a0 a1 = some r) (gp0 : Kd.string.C w Ap0 np0 a0) (lp0 : np0 ≤ cp0) :
    Calls Try.prog 156 #[.slice Ap0 np0 cp0, .int .i64 a1] w (fun e w' => e = .returned (.bool r) ∧ Hp noFP w w' []) := by
 obtain rfl := C_len gp0
 have HS := Hp.start w
 have H := Aside0.mk h
 clear h
 unfold spec_l15Texts.f at H
 go_enter Try.func156, Try.ntmps156
 go_wp2
 go_loopg [5] k (fun kq v_5 w' => ∃ (x4 : Int), v_5 = .int .i64 x4 ∧ Aside0 (spec_l15Texts.l0 kq x4 a0 a1 = some r) ∧ Aside0 (kq ≤ k) ∧ Hp noFP w w' [])
 case atStart => exact ⟨_, rfl, H, ⟨Nat.le_refl _⟩, HS⟩
 case round =>
  clear HS H; (try clear F)
  obtain ⟨x4, rfl, H, HKk3, HS⟩ := hrel
  cases gk with
  | zero => exact absurd H.out (by simp [spec_l15Texts.l0])
  | succ k3 =>
   simp only [spec_l15Texts.l0] at H
   by_cases c6 : x4 < (a0.length : Int)
   · replace H := zpos c6 H
     replace c6 := eq_true c6
     by_cases c7 : 0 ≤ x4
     case neg => exact zno c7 H
     replace H := zpos c7 H
     replace c7 := eq_true c7
     by_cases c8 : x4 < (a0.length : Int)
     case neg => exact zno c8 H
     replace H := zpos c8 H
     replace c8 := eq_true c8
     obtain ⟨ad9, rfl, e9_0⟩ := Kd.at_string gp0 x4 (of_eq_true c7) (of_eq_true c8)
     have e9_0_9 := (HS.keepc e9_0)
     by_cases c10 : 400 < ((rdOf ByteArray.empty a0 x4).size : Int)
     · replace H := zpos c10 H
       replace c10 := eq_true c10
       obtain rfl := zsome H
       go_wp2
       go_ret
       exact ⟨rfl, HS.pick [] (by decide) (by rfl)⟩
     · replace H := zneg c10 H
       replace c10 := eq_false c10
       go_wp2
       go_roundg k3
       case measure => have := HKk3.out; omega
       case rel => exact ⟨_, rfl, H, ⟨by have := HKk3.out; omega⟩, HS.pick [] (by decide) (by rfl)⟩
   · replace H := zneg c6 H
     replace c6 := eq_false c6
     obtain rfl := zsome H
     go_wp2
     go_ret
     exact ⟨rfl, HS.pick [] (by decide) (by rfl)⟩
/-! ### spec_ReplyOk: function 114 -/
def spec_ReplyOk.l0 : Nat → Int → S40 → Option (Bool)
  | 0, _, _ => none
  | k + 1, x6, a0 => (if x6 < (a0.f6.length : Int) then (if 0 ≤ x6 then (if x6 < (a0.f6.length : Int) then ((spec_l01In.f ((rd_T109 a0.f6 x6).f0) 0 2).bind fun t16 => (if t16 = true then ((spec_l01In.f ((rd_T109 a0.f6 x6).f1) 0 12).bind fun t19 => (if t19 = true then ((spec_l15Texts.f k ((rd_T109 a0.f6 x6).f2) 5).bind fun t22 => (if t22 = true then ((spec_l15Texts.f k ((rd_T109 a0.f6 x6).f3) 8).bind fun t25 => (if t25 = true then (spec_ReplyOk.l0 k (wrap64 (x6 + 1)) a0) else (some false))) else (some false))) else (some false))) else (some false))) else none) else none) else (if (a0.f0.size : Int) = 32 then ((spec_l01In.f a0.f1 0 1000000000).bind fun t29 => (if t29 = true then ((spec_l01In.f a0.f2 0 19999).bind fun t32 => (if t32 = true then ((spec_l01In.f a0.f3 0 19999).bind fun t35 => (if t35 = true then ((spec_l01In.f a0.f4 0 99).bind fun t38 => (if t38 = true then ((spec_l01In.f a0.f5 0 2).bind fun t41 => (if t41 = true then (if (a0.f6.length : Int) ≤ 3 then (some ((a0.f7.size : Int) == 15)) else (some false)) else (some false))) else (some false))) else (some false))) else (some false))) else (some false))) else (some false)))
def spec_ReplyOk.f (k : Nat) (a0 : S40) : Option (Bool) := (spec_ReplyOk.l0 k 0 a0)
set_option maxHeartbeats 16000000 in
theorem spec_ReplyOk.calls {k : Nat} {a0 : S40} {Ap0 : Option Addr} {np0 cp0 : Nat} {r : Bool} {w : World} (h : spec_ReplyOk.f k a0 = some r) (gp0 : k109.C w Ap0 np0 a0.f6) (lp0 : np0 ≤ cp0) :
    Calls Try.prog 114 #[.agg #[.string a0.f0, .int .i64 a0.f1, .int .i64 a0.f2, .int .i64 a0.f3, .int .i64 a0.f4, .int .i64 a0.f5, .slice Ap0 np0 cp0, .string a0.f7]] w (fun e w' => e = .returned (.bool r) ∧ Hp noFP w w' []) := by
 obtain rfl := C_len gp0
 have HS := Hp.start w
 have H := Aside0.mk h
 clear h
 unfold spec_ReplyOk.f at H
 go_enter Try.func114, Try.ntmps114
 go_wp2_with (first | ((with_reducible refine gate_dst (N := 1) rfl ?_); refine ev_box rfl HS (by first | (go_simp; done) | (go_simp; rfl)) rfl ?_; clear HS; (try clear F); intro g1 w1 HS; (try simp only [hpn, hpm] at HS); have F := HS.boxes; simp only [boxFacts, and_true] at F))
 go_loopg [3] k (fun kq v_3 w' => ∃ (x6 : Int), v_3 = .int .i64 x6 ∧ Aside0 (spec_ReplyOk.l0 kq x6 a0 = some r) ∧ Aside0 (kq ≤ k) ∧ Hp noFP w w' [.box g1 [.string a0.f0, .int .i64 a0.f1, .int .i64 a0.f2, .int .i64 a0.f3, .int .i64 a0.f4, .int .i64 a0.f5, .slice Ap0 a0.f6.length cp0, .string a0.f7] 40])
 case atStart => exact ⟨_, rfl, H, ⟨Nat.le_refl _⟩, HS⟩
 case round =>
  clear HS H; (try clear F)
  obtain ⟨x6, rfl, H, HKk5, HS⟩ := hrel
  have F := HS.boxes; simp only [boxFacts, and_true] at F
  cases gk with
  | zero => exact absurd H.out (by simp [spec_ReplyOk.l0])
  | succ k5 =>
   simp only [spec_ReplyOk.l0] at H
   by_cases c8 : x6 < (a0.f6.length : Int)
   · replace H := zpos c8 H
     replace c8 := eq_true c8
     by_cases c9 : 0 ≤ x6
     case neg => exact zno c9 H
     replace H := zpos c9 H
     replace c9 := eq_true c9
     by_cases c10 : x6 < (a0.f6.length : Int)
     case neg => exact zno c10 H
     replace H := zpos c10 H
     replace c10 := eq_true c10
     obtain ⟨ad11, B11_2, d11_2, B11_3, d11_3, rfl, e11_0, e11_1, e11_2, e11_3, m11_2, y11_2, m11_3, y11_3⟩ := at_T109 gp0 x6 (of_eq_true c9) (of_eq_true c10)
     have e11_0_11 := (HS.keepc e11_0)
     have e11_1_11 := (HS.keepc e11_1)
     have e11_2_11 := (HS.keepc e11_2)
     have e11_3_11 := (HS.keepc e11_3)
     replace H := zbind H; obtain ⟨t16, ht16, H⟩ := H
     by_cases c18 : t16 = true
     · replace H := zpos c18 H
       subst c18
       replace H := zbind H; obtain ⟨t19, ht19, H⟩ := H
       by_cases c21 : t19 = true
       · replace H := zpos c21 H
         subst c21
         replace H := zbind H; obtain ⟨t22, ht22, H⟩ := H
         by_cases c24 : t22 = true
         · replace H := zpos c24 H
           subst c24
           replace H := zbind H; obtain ⟨t25, ht25, H⟩ := H
           go_upto_if 38 with (first | ((with_reducible refine gate_dst (N := 4) rfl ?_); refine ev_box rfl HS (by first | (go_simp; done) | (go_simp; rfl)) rfl ?_; clear HS; (try clear F); intro g4 w4 HS; (try simp only [hpn, hpm] at HS); have F := HS.boxes; simp only [boxFacts, and_true] at F) | ((with_reducible refine gate_store (p := 4) rfl ?_); refine ev_store rfl 1 0 HS (seg := [.int .i64 ((rd_T109 a0.f6 x6).f0), .int .i64 ((rd_T109 a0.f6 x6).f1), .slice B11_2 (rd_T109 a0.f6 x6).f2.length d11_2, .slice B11_3 (rd_T109 a0.f6 x6).f3.length d11_3]) rfl rfl rfl rfl rfl rfl (by kernel_rfl) (by simp [wrt]) (by simp [Value.oneCell']) ?_; clear HS; (try clear F); intro w14 HS; (try simp only [hpn, hpm] at HS); have F := HS.boxes; simp only [boxFacts, and_true] at F) | ((with_reducible refine gate_dst (N := 19) rfl ?_); refine ev_call rfl Try.func72 (by kernel_rfl) rfl #[.int .i64 ((rd_T109 a0.f6 x6).f0), .int .i64 0, .int .i64 2] rfl (by simp only [List.map_toArray, List.map_cons, List.map_nil]; rfl) ?_; refine (spec_l01In.calls ht16.out).mono ?_; rintro _ wt16 ⟨rfl, HQ⟩; refine ⟨_, rfl, ?_⟩; replace HS := HS.call HQ; clear HQ; (try clear F); (try simp only [hpn, hpm] at HS); have F := HS.boxes; simp only [boxFacts, and_true] at F) | ((with_reducible refine gate_dst (N := 24) rfl ?_); refine gate_guard (by rfl) ?_; refine ev_call rfl Try.func72 (by kernel_rfl) rfl #[.int .i64 ((rd_T109 a0.f6 x6).f1), .int .i64 0, .int .i64 12] rfl (by simp only [List.map_toArray, List.map_cons, List.map_nil]; rfl) ?_; refine (spec_l01In.calls ht19.out).mono ?_; rintro _ wt19 ⟨rfl, HQ⟩; refine ⟨_, rfl, ?_⟩; replace HS := HS.call HQ; clear HQ; (try clear F); (try simp only [hpn, hpm] at HS); have F := HS.boxes; simp only [boxFacts, and_true] at F) | ((with_reducible refine gate_dst (N := 30) rfl ?_); refine gate_guard (by rfl) ?_; refine ev_call rfl Try.func156 (by kernel_rfl) rfl #[.slice B11_2 (rd_T109 a0.f6 x6).f2.length d11_2, .int .i64 5] rfl (by simp only [List.map_toArray, List.map_cons, List.map_nil]; rfl) ?_; refine (spec_l15Texts.calls ht22.out (HS.ro y11_2) m11_2).mono ?_; rintro _ wt22 ⟨rfl, HQ⟩; refine ⟨_, rfl, ?_⟩; replace HS := HS.call HQ; clear HQ; (try clear F); (try simp only [hpn, hpm] at HS); have F := HS.boxes; simp only [boxFacts, and_true] at F) | ((with_reducible refine gate_dst (N := 36) rfl ?_); refine gate_guard (by rfl) ?_; refine ev_call rfl Try.func156 (by kernel_rfl) rfl #[.slice B11_3 (rd_T109 a0.f6 x6).f3.length d11_3, .int .i64 8] rfl (by simp only [List.map_toArray, List.map_cons, List.map_nil]; rfl) ?_; refine (spec_l15Texts.calls ht25.out (HS.ro y11_3) m11_3).mono ?_; rintro _ wt25 ⟨rfl, HQ⟩; refine ⟨_, rfl, ?_⟩; replace HS := HS.call HQ; clear HQ; (try clear F); (try simp only [hpn, hpm] at HS); have F := HS.boxes; simp only [boxFacts, and_true] at F))
           by_cases c27 : t25 = true
           · replace H := zpos c27 H
             subst c27
             (try simp only [dcn, if_true, Bool.false_eq_true, if_false])
             go_wp2
             go_roundg k5
             case measure => have := HKk5.out; omega
             case rel => exact ⟨_, rfl, H, ⟨by have := HKk5.out; omega⟩, HS.pick [0] (by decide) (by rfl)⟩
           · replace H := zneg c27 H
             replace c27 := eq_false_of_ne_true c27
             subst c27
             (try simp only [dcn, if_true, Bool.false_eq_true, if_false])
             obtain rfl := zsome H
             go_wp2
             go_ret
             exact ⟨rfl, HS.pick [] (by decide) (by rfl)⟩
         · replace H := zneg c24 H
           replace c24 := eq_false_of_ne_true c24
           subst c24
           obtain rfl := zsome H
           go_wp2_with (first | ((with_reducible refine gate_dst (N := 4) rfl ?_); refine ev_box rfl HS (by first | (go_simp; done) | (go_simp; rfl)) rfl ?_; clear HS; (try clear F); intro g4 w4 HS; (try simp only [hpn, hpm] at HS); have F := HS.boxes; simp only [boxFacts, and_true] at F) | ((with_reducible refine gate_store (p := 4) rfl ?_); refine ev_store rfl 1 0 HS (seg := [.int .i64 ((rd_T109 a0.f6 x6).f0), .int .i64 ((rd_T109 a0.f6 x6).f1), .slice B11_2 (rd_T109 a0.f6 x6).f2.length d11_2, .slice B11_3 (rd_T109 a0.f6 x6).f3.length d11_3]) rfl rfl rfl rfl rfl rfl (by kernel_rfl) (by simp [wrt]) (by simp [Value.oneCell']) ?_; clear HS; (try clear F); intro w14 HS; (try simp only [hpn, hpm] at HS); have F := HS.boxes; simp only [boxFacts, and_true] at F) | ((with_reducible refine gate_dst (N := 19) rfl ?_); refine ev_call rfl Try.func72 (by kernel_rfl) rfl #[.int .i64 ((rd_T109 a0.f6 x6).f0), .int .i64 0, .int .i64 2] rfl (by simp only [List.map_toArray, List.map_cons, List.map_nil]; rfl) ?_; refine (spec_l01In.calls ht16.out).mono ?_; rintro _ wt16 ⟨rfl, HQ⟩; refine ⟨_, rfl, ?_⟩; replace HS := HS.call HQ; clear HQ; (try clear F); (try simp only [hpn, hpm] at HS); have F := HS.boxes; simp only [boxFacts, and_true] at F) | ((with_reducible refine gate_dst (N := 24) rfl ?_); refine gate_guard (by rfl) ?_; refine ev_call rfl Try.func72 (by kernel_rfl) rfl #[.int .i64 ((rd_T109 a0.f6 x6).f1), .int .i64 0, .int .i64 12] rfl (by simp only [List.map_toArray, List.map_cons, List.map_nil]; rfl) ?_; refine (spec_l01In.calls ht19.out).mono ?_; rintro _ wt19 ⟨rfl, HQ⟩; refine ⟨_, rfl, ?_⟩; replace HS := HS.call HQ; clear HQ; (try clear F); (try simp only [hpn, hpm] at HS); have F := HS.boxes; simp only [boxFacts, and_true] at F) | ((with_reducible refine gate_dst (N := 30) rfl ?_); refine gate_guard (by rfl) ?_; refine ev_call rfl Try.func156 (by kernel_rfl) rfl #[.slice B11_2 (rd_T109 a0.f6 x6).f2.length d11_2, .int .i64 5] rfl (by simp only [List.map_toArray, List.map_cons, List.map_nil]; rfl) ?_; refine (spec_l15Texts.calls ht22.out (HS.ro y11_2) m11_2).mono ?_; rintro _ wt22 ⟨rfl, HQ⟩; refine ⟨_, rfl, ?_⟩; replace HS := HS.call HQ; clear HQ; (try clear F); (try simp only [hpn, hpm] at HS); have F := HS.boxes; simp only [boxFacts, and_true] at F))
           go_ret
           exact ⟨rfl, HS.pick [] (by decide) (by rfl)⟩
       · replace H := zneg c21 H
         replace c21 := eq_false_of_ne_true c21
         subst c21
         obtain rfl := zsome H
         go_wp2_with (first | ((with_reducible refine gate_dst (N := 4) rfl ?_); refine ev_box rfl HS (by first | (go_simp; done) | (go_simp; rfl)) rfl ?_; clear HS; (try clear F); intro g4 w4 HS; (try simp only [hpn, hpm] at HS); have F := HS.boxes; simp only [boxFacts, and_true] at F) | ((with_reducible refine gate_store (p := 4) rfl ?_); refine ev_store rfl 1 0 HS (seg := [.int .i64 ((rd_T109 a0.f6 x6).f0), .int .i64 ((rd_T109 a0.f6 x6).f1), .slice B11_2 (rd_T109 a0.f6 x6).f2.length d11_2, .slice B11_3 (rd_T109 a0.f6 x6).f3.length d11_3]) rfl rfl rfl rfl rfl rfl (by kernel_rfl) (by simp [wrt]) (by simp [Value.oneCell']) ?_; clear HS; (try clear F); intro w14 HS; (try simp only [hpn, hpm] at HS); have F := HS.boxes; simp only [boxFacts, and_true] at F) | ((with_reducible refine gate_dst (N := 19) rfl ?_); refine ev_call rfl Try.func72 (by kernel_rfl) rfl #[.int .i64 ((rd_T109 a0.f6 x6).f0), .int .i64 0, .int .i64 2] rfl (by simp only [List.map_toArray, List.map_cons, List.map_nil]; rfl) ?_; refine (spec_l01In.calls ht16.out).mono ?_; rintro _ wt16 ⟨rfl, HQ⟩; refine ⟨_, rfl, ?_⟩; replace HS := HS.call HQ; clear HQ; (try clear F); (try simp only [hpn, hpm] at HS); have F := HS.boxes; simp only [boxFacts, and_true] at F) | ((with_reducible refine gate_dst (N := 24) rfl ?_); refine gate_guard (by rfl) ?_; refine ev_call rfl Try.func72 (by kernel_rfl) rfl #[.int .i64 ((rd_T109 a0.f6 x6).f1), .int .i64 0, .int .i64 12] rfl (by simp only [List.map_toArray, List.map_cons, List.map_nil]; rfl) ?_; refine (spec_l01In.calls ht19.out).mono ?_; rintro _ wt19 ⟨rfl, HQ⟩; refine ⟨_, rfl, ?_⟩; replace HS := HS.call HQ; clear HQ; (try clear F); (try simp only [hpn, hpm] at HS); have F := HS.boxes; simp only [boxFacts, and_true] at F))
         go_ret
         exact ⟨rfl, HS.pick [] (by decide) (by rfl)⟩
     · replace H := zneg c18 H
       replace c18 := eq_false_of_ne_true c18
       subst c18
       obtain rfl := zsome H
       go_wp2_with (first | ((with_reducible refine gate_dst (N := 4) rfl ?_); refine ev_box rfl HS (by first | (go_simp; done) | (go_simp; rfl)) rfl ?_; clear HS; (try clear F); intro g4 w4 HS; (try simp only [hpn, hpm] at HS); have F := HS.boxes; simp only [boxFacts, and_true] at F) | ((with_reducible refine gate_store (p := 4) rfl ?_); refine ev_store rfl 1 0 HS (seg := [.int .i64 ((rd_T109 a0.f6 x6).f0), .int .i64 ((rd_T109 a0.f6 x6).f1), .slice B11_2 (rd_T109 a0.f6 x6).f2.length d11_2, .slice B11_3 (rd_T109 a0.f6 x6).f3.length d11_3]) rfl rfl rfl rfl rfl rfl (by kernel_rfl) (by simp [wrt]) (by simp [Value.oneCell']) ?_; clear HS; (try clear F); intro w14 HS; (try simp only [hpn, hpm] at HS); have F := HS.boxes; simp only [boxFacts, and_true] at F) | ((with_reducible refine gate_dst (N := 19) rfl ?_); refine ev_call rfl Try.func72 (by kernel_rfl) rfl #[.int .i64 ((rd_T109 a0.f6 x6).f0), .int .i64 0, .int .i64 2] rfl (by simp only [List.map_toArray, List.map_cons, List.map_nil]; rfl) ?_; refine (spec_l01In.calls ht16.out).mono ?_; rintro _ wt16 ⟨rfl, HQ⟩; refine ⟨_, rfl, ?_⟩; replace HS := HS.call HQ; clear HQ; (try clear F); (try simp only [hpn, hpm] at HS); have F := HS.boxes; simp only [boxFacts, and_true] at F))
       go_ret
       exact ⟨rfl, HS.pick [] (by decide) (by rfl)⟩
   · replace H := zneg c8 H
     replace c8 := eq_false c8
     by_cases c28 : (a0.f0.size : Int) = 32
     · replace H := zpos c28 H
       have c28a := beq_iff_eq.mpr c28
       have c28b := bne_eq_false_iff_eq.mpr c28
       clear c28
       replace H := zbind H; obtain ⟨t29, ht29, H⟩ := H
       by_cases c31 : t29 = true
       · replace H := zpos c31 H
         subst c31
         replace H := zbind H; obtain ⟨t32, ht32, H⟩ := H
         by_cases c34 : t32 = true
         · replace H := zpos c34 H
           subst c34
           replace H := zbind H; obtain ⟨t35, ht35, H⟩ := H
           by_cases c37 : t35 = true
           · replace H := zpos c37 H
             subst c37
             replace H := zbind H; obtain ⟨t38, ht38, H⟩ := H
             by_cases c40 : t38 = true
             · replace H := zpos c40 H
               subst c40
               replace H := zbind H; obtain ⟨t41, ht41, H⟩ := H
               by_cases c43 : t41 = true
               · replace H := zpos c43 H
                 subst c43
                 by_cases c44 : (a0.f6.length : Int) ≤ 3
                 · replace H := zpos c44 H
                   replace c44 := eq_true c44
                   obtain rfl := zsome H
                   go_wp2_with (first | ((with_reducible refine gate_dst (N := 46) rfl ?_); refine gate_guard (by rfl) ?_; refine ev_call rfl Try.func72 (by kernel_rfl) rfl #[.int .i64 a0.f1, .int .i64 0, .int .i64 1000000000] rfl (by simp only [List.map_toArray, List.map_cons, List.map_nil]; rfl) ?_; refine (spec_l01In.calls ht29.out).mono ?_; rintro _ wt29 ⟨rfl, HQ⟩; refine ⟨_, rfl, ?_⟩; replace HS := HS.call HQ; clear HQ; (try clear F); (try simp only [hpn, hpm] at HS); have F := HS.boxes; simp only [boxFacts, and_true] at F) | ((with_reducible refine gate_dst (N := 51) rfl ?_); refine gate_guard (by rfl) ?_; refine ev_call rfl Try.func72 (by kernel_rfl) rfl #[.int .i64 a0.f2, .int .i64 0, .int .i64 19999] rfl (by simp only [List.map_toArray, List.map_cons, List.map_nil]; rfl) ?_; refine (spec_l01In.calls ht32.out).mono ?_; rintro _ wt32 ⟨rfl, HQ⟩; refine ⟨_, rfl, ?_⟩; replace HS := HS.call HQ; clear HQ; (try clear F); (try simp only [hpn, hpm] at HS); have F := HS.boxes; simp only [boxFacts, and_true] at F) | ((with_reducible refine gate_dst (N := 56) rfl ?_); refine gate_guard (by rfl) ?_; refine ev_call rfl Try.func72 (by kernel_rfl) rfl #[.int .i64 a0.f3, .int .i64 0, .int .i64 19999] rfl (by simp only [List.map_toArray, List.map_cons, List.map_nil]; rfl) ?_; refine (spec_l01In.calls ht35.out).mono ?_; rintro _ wt35 ⟨rfl, HQ⟩; refine ⟨_, rfl, ?_⟩; replace HS := HS.call HQ; clear HQ; (try clear F); (try simp only [hpn, hpm] at HS); have F := HS.boxes; simp only [boxFacts, and_true] at F) | ((with_reducible refine gate_dst (N := 61) rfl ?_); refine gate_guard (by rfl) ?_; refine ev_call rfl Try.func72 (by kernel_rfl) rfl #[.int .i64 a0.f4, .int .i64 0, .int .i64 99] rfl (by simp only [List.map_toArray, List.map_cons, List.map_nil]; rfl) ?_; refine (spec_l01In.calls ht38.out).mono ?_; rintro _ wt38 ⟨rfl, HQ⟩; refine ⟨_, rfl, ?_⟩; replace HS := HS.call HQ; clear HQ; (try clear F); (try simp only [hpn, hpm] at HS); have F := HS.boxes; simp only [boxFacts, and_true] at F) | ((with_reducible refine gate_dst (N := 66) rfl ?_); refine gate_guard (by rfl) ?_; refine ev_call rfl Try.func72 (by kernel_rfl) rfl #[.int .i64 a0.f5, .int .i64 0, .int .i64 2] rfl (by simp only [List.map_toArray, List.map_cons, List.map_nil]; rfl) ?_; refine (spec_l01In.calls ht41.out).mono ?_; rintro _ wt41 ⟨rfl, HQ⟩; refine ⟨_, rfl, ?_⟩; replace HS := HS.call HQ; clear HQ; (try clear F); (try simp only [hpn, hpm] at HS); have F := HS.boxes; simp only [boxFacts, and_true] at F))
                   go_ret
                   exact ⟨rfl, HS.pick [] (by decide) (by rfl)⟩
                 · replace H := zneg c44 H
                   replace c44 := eq_false c44
                   obtain rfl := zsome H
                   go_wp2_with (first | ((with_reducible refine gate_dst (N := 46) rfl ?_); refine gate_guard (by rfl) ?_; refine ev_call rfl Try.func72 (by kernel_rfl) rfl #[.int .i64 a0.f1, .int .i64 0, .int .i64 1000000000] rfl (by simp only [List.map_toArray, List.map_cons, List.map_nil]; rfl) ?_; refine (spec_l01In.calls ht29.out).mono ?_; rintro _ wt29 ⟨rfl, HQ⟩; refine ⟨_, rfl, ?_⟩; replace HS := HS.call HQ; clear HQ; (try clear F); (try simp only [hpn, hpm] at HS); have F := HS.boxes; simp only [boxFacts, and_true] at F) | ((with_reducible refine gate_dst (N := 51) rfl ?_); refine gate_guard (by rfl) ?_; refine ev_call rfl Try.func72 (by kernel_rfl) rfl #[.int .i64 a0.f2, .int .i64 0, .int .i64 19999] rfl (by simp only [List.map_toArray, List.map_cons, List.map_nil]; rfl) ?_; refine (spec_l01In.calls ht32.out).mono ?_; rintro _ wt32 ⟨rfl, HQ⟩; refine ⟨_, rfl, ?_⟩; replace HS := HS.call HQ; clear HQ; (try clear F); (try simp only [hpn, hpm] at HS); have F := HS.boxes; simp only [boxFacts, and_true] at F) | ((with_reducible refine gate_dst (N := 56) rfl ?_); refine gate_guard (by rfl) ?_; refine ev_call rfl Try.func72 (by kernel_rfl) rfl #[.int .i64 a0.f3, .int .i64 0, .int .i64 19999] rfl (by simp only [List.map_toArray, List.map_cons, List.map_nil]; rfl) ?_; refine (spec_l01In.calls ht35.out).mono ?_; rintro _ wt35 ⟨rfl, HQ⟩; refine ⟨_, rfl, ?_⟩; replace HS := HS.call HQ; clear HQ; (try clear F); (try simp only [hpn, hpm] at HS); have F := HS.boxes; simp only [boxFacts, and_true] at F) | ((with_reducible refine gate_dst (N := 61) rfl ?_); refine gate_guard (by rfl) ?_; refine ev_call rfl Try.func72 (by kernel_rfl) rfl #[.int .i64 a0.f4, .int .i64 0, .int .i64 99] rfl (by simp only [List.map_toArray, List.map_cons, List.map_nil]; rfl) ?_; refine (spec_l01In.calls ht38.out).mono ?_; rintro _ wt38 ⟨rfl, HQ⟩; refine ⟨_, rfl, ?_⟩; replace HS := HS.call HQ; clear HQ; (try clear F); (try simp only [hpn, hpm] at HS); have F := HS.boxes; simp only [boxFacts, and_true] at F) | ((with_reducible refine gate_dst (N := 66) rfl ?_); refine gate_guard (by rfl) ?_; refine ev_call rfl Try.func72 (by kernel_rfl) rfl #[.int .i64 a0.f5, .int .i64 0, .int .i64 2] rfl (by simp only [List.map_toArray, List.map_cons, List.map_nil]; rfl) ?_; refine (spec_l01In.calls ht41.out).mono ?_; rintro _ wt41 ⟨rfl, HQ⟩; refine ⟨_, rfl, ?_⟩; replace HS := HS.call HQ; clear HQ; (try clear F); (try simp only [hpn, hpm] at HS); have F := HS.boxes; simp only [boxFacts, and_true] at F))
                   go_ret
                   exact ⟨rfl, HS.pick [] (by decide) (by rfl)⟩
               · replace H := zneg c43 H
                 replace c43 := eq_false_of_ne_true c43
                 subst c43
                 obtain rfl := zsome H
                 go_wp2_with (first | ((with_reducible refine gate_dst (N := 46) rfl ?_); refine gate_guard (by rfl) ?_; refine ev_call rfl Try.func72 (by kernel_rfl) rfl #[.int .i64 a0.f1, .int .i64 0, .int .i64 1000000000] rfl (by simp only [List.map_toArray, List.map_cons, List.map_nil]; rfl) ?_; refine (spec_l01In.calls ht29.out).mono ?_; rintro _ wt29 ⟨rfl, HQ⟩; refine ⟨_, rfl, ?_⟩; replace HS := HS.call HQ; clear HQ; (try clear F); (try simp only [hpn, hpm] at HS); have F := HS.boxes; simp only [boxFacts, and_true] at F) | ((with_reducible refine gate_dst (N := 51) rfl ?_); refine gate_guard (by rfl) ?_; refine ev_call rfl Try.func72 (by kernel_rfl) rfl #[.int .i64 a0.f2, .int .i64 0, .int .i64 19999] rfl (by simp only [List.map_toArray, List.map_cons, List.map_nil]; rfl) ?_; refine (spec_l01In.calls ht32.out).mono ?_; rintro _ wt32 ⟨rfl, HQ⟩; refine ⟨_, rfl, ?_⟩; replace HS := HS.call HQ; clear HQ; (try clear F); (try simp only [hpn, hpm] at HS); have F := HS.boxes; simp only [boxFacts, and_true] at F) | ((with_reducible refine gate_dst (N := 56) rfl ?_); refine gate_guard (by rfl) ?_; refine ev_call rfl Try.func72 (by kernel_rfl) rfl #[.int .i64 a0.f3, .int .i64 0, .int .i64 19999] rfl (by simp only [List.map_toArray, List.map_cons, List.map_nil]; rfl) ?_; refine (spec_l01In.calls ht35.out).mono ?_; rintro _ wt35 ⟨rfl, HQ⟩; refine ⟨_, rfl, ?_⟩; replace HS := HS.call HQ; clear HQ; (try clear F); (try simp only [hpn, hpm] at HS); have F := HS.boxes; simp only [boxFacts, and_true] at F) | ((with_reducible refine gate_dst (N := 61) rfl ?_); refine gate_guard (by rfl) ?_; refine ev_call rfl Try.func72 (by kernel_rfl) rfl #[.int .i64 a0.f4, .int .i64 0, .int .i64 99] rfl (by simp only [List.map_toArray, List.map_cons, List.map_nil]; rfl) ?_; refine (spec_l01In.calls ht38.out).mono ?_; rintro _ wt38 ⟨rfl, HQ⟩; refine ⟨_, rfl, ?_⟩; replace HS := HS.call HQ; clear HQ; (try clear F); (try simp only [hpn, hpm] at HS); have F := HS.boxes; simp only [boxFacts, and_true] at F) | ((with_reducible refine gate_dst (N := 66) rfl ?_); refine gate_guard (by rfl) ?_; refine ev_call rfl Try.func72 (by kernel_rfl) rfl #[.int .i64 a0.f5, .int .i64 0, .int .i64 2] rfl (by simp only [List.map_toArray, List.map_cons, List.map_nil]; rfl) ?_; refine (spec_l01In.calls ht41.out).mono ?_; rintro _ wt41 ⟨rfl, HQ⟩; refine ⟨_, rfl, ?_⟩; replace HS := HS.call HQ; clear HQ; (try clear F); (try simp only [hpn, hpm] at HS); have F := HS.boxes; simp only [boxFacts, and_true] at F))
                 go_ret
                 exact ⟨rfl, HS.pick [] (by decide) (by rfl)⟩
             · replace H := zneg c40 H
               replace c40 := eq_false_of_ne_true c40
               subst c40
               obtain rfl := zsome H
               go_wp2_with (first | ((with_reducible refine gate_dst (N := 46) rfl ?_); refine gate_guard (by rfl) ?_; refine ev_call rfl Try.func72 (by kernel_rfl) rfl #[.int .i64 a0.f1, .int .i64 0, .int .i64 1000000000] rfl (by simp only [List.map_toArray, List.map_cons, List.map_nil]; rfl) ?_; refine (spec_l01In.calls ht29.out).mono ?_; rintro _ wt29 ⟨rfl, HQ⟩; refine ⟨_, rfl, ?_⟩; replace HS := HS.call HQ; clear HQ; (try clear F); (try simp only [hpn, hpm] at HS); have F := HS.boxes; simp only [boxFacts, and_true] at F) | ((with_reducible refine gate_dst (N := 51) rfl ?_); refine gate_guard (by rfl) ?_; refine ev_call rfl Try.func72 (by kernel_rfl) rfl #[.int .i64 a0.f2, .int .i64 0, .int .i64 19999] rfl (by simp only [List.map_toArray, List.map_cons, List.map_nil]; rfl) ?_; refine (spec_l01In.calls ht32.out).mono ?_; rintro _ wt32 ⟨rfl, HQ⟩; refine ⟨_, rfl, ?_⟩; replace HS := HS.call HQ; clear HQ; (try clear F); (try simp only [hpn, hpm] at HS); have F := HS.boxes; simp only [boxFacts, and_true] at F) | ((with_reducible refine gate_dst (N := 56) rfl ?_); refine gate_guard (by rfl) ?_; refine ev_call rfl Try.func72 (by kernel_rfl) rfl #[.int .i64 a0.f3, .int .i64 0, .int .i64 19999] rfl (by simp only [List.map_toArray, List.map_cons, List.map_nil]; rfl) ?_; refine (spec_l01In.calls ht35.out).mono ?_; rintro _ wt35 ⟨rfl, HQ⟩; refine ⟨_, rfl, ?_⟩; replace HS := HS.call HQ; clear HQ; (try clear F); (try simp only [hpn, hpm] at HS); have F := HS.boxes; simp only [boxFacts, and_true] at F) | ((with_reducible refine gate_dst (N := 61) rfl ?_); refine gate_guard (by rfl) ?_; refine ev_call rfl Try.func72 (by kernel_rfl) rfl #[.int .i64 a0.f4, .int .i64 0, .int .i64 99] rfl (by simp only [List.map_toArray, List.map_cons, List.map_nil]; rfl) ?_; refine (spec_l01In.calls ht38.out).mono ?_; rintro _ wt38 ⟨rfl, HQ⟩; refine ⟨_, rfl, ?_⟩; replace HS := HS.call HQ; clear HQ; (try clear F); (try simp only [hpn, hpm] at HS); have F := HS.boxes; simp only [boxFacts, and_true] at F))
               go_ret
               exact ⟨rfl, HS.pick [] (by decide) (by rfl)⟩
           · replace H := zneg c37 H
             replace c37 := eq_false_of_ne_true c37
             subst c37
             obtain rfl := zsome H
             go_wp2_with (first | ((with_reducible refine gate_dst (N := 46) rfl ?_); refine gate_guard (by rfl) ?_; refine ev_call rfl Try.func72 (by kernel_rfl) rfl #[.int .i64 a0.f1, .int .i64 0, .int .i64 1000000000] rfl (by simp only [List.map_toArray, List.map_cons, List.map_nil]; rfl) ?_; refine (spec_l01In.calls ht29.out).mono ?_; rintro _ wt29 ⟨rfl, HQ⟩; refine ⟨_, rfl, ?_⟩; replace HS := HS.call HQ; clear HQ; (try clear F); (try simp only [hpn, hpm] at HS); have F := HS.boxes; simp only [boxFacts, and_true] at F) | ((with_reducible refine gate_dst (N := 51) rfl ?_); refine gate_guard (by rfl) ?_; refine ev_call rfl Try.func72 (by kernel_rfl) rfl #[.int .i64 a0.f2, .int .i64 0, .int .i64 19999] rfl (by simp only [List.map_toArray, List.map_cons, List.map_nil]; rfl) ?_; refine (spec_l01In.calls ht32.out).mono ?_; rintro _ wt32 ⟨rfl, HQ⟩; refine ⟨_, rfl, ?_⟩; replace HS := HS.call HQ; clear HQ; (try clear F); (try simp only [hpn, hpm] at HS); have F := HS.boxes; simp only [boxFacts, and_true] at F) | ((with_reducible refine gate_dst (N := 56) rfl ?_); refine gate_guard (by rfl) ?_; refine ev_call rfl Try.func72 (by kernel_rfl) rfl #[.int .i64 a0.f3, .int .i64 0, .int .i64 19999] rfl (by simp only [List.map_toArray, List.map_cons, List.map_nil]; rfl) ?_; refine (spec_l01In.calls ht35.out).mono ?_; rintro _ wt35 ⟨rfl, HQ⟩; refine ⟨_, rfl, ?_⟩; replace HS := HS.call HQ; clear HQ; (try clear F); (try simp only [hpn, hpm] at HS); have F := HS.boxes; simp only [boxFacts, and_true] at F))
             go_ret
             exact ⟨rfl, HS.pick [] (by decide) (by rfl)⟩
         · replace H := zneg c34 H
           replace c34 := eq_false_of_ne_true c34
           subst c34
           obtain rfl := zsome H
           go_wp2_with (first | ((with_reducible refine gate_dst (N := 46) rfl ?_); refine gate_guard (by rfl) ?_; refine ev_call rfl Try.func72 (by kernel_rfl) rfl #[.int .i64 a0.f1, .int .i64 0, .int .i64 1000000000] rfl (by simp only [List.map_toArray, List.map_cons, List.map_nil]; rfl) ?_; refine (spec_l01In.calls ht29.out).mono ?_; rintro _ wt29 ⟨rfl, HQ⟩; refine ⟨_, rfl, ?_⟩; replace HS := HS.call HQ; clear HQ; (try clear F); (try simp only [hpn, hpm] at HS); have F := HS.boxes; simp only [boxFacts, and_true] at F) | ((with_reducible refine gate_dst (N := 51) rfl ?_); refine gate_guard (by rfl) ?_; refine ev_call rfl Try.func72 (by kernel_rfl) rfl #[.int .i64 a0.f2, .int .i64 0, .int .i64 19999] rfl (by simp only [List.map_toArray, List.map_cons, List.map_nil]; rfl) ?_; refine (spec_l01In.calls ht32.out).mono ?_; rintro _ wt32 ⟨rfl, HQ⟩; refine ⟨_, rfl, ?_⟩; replace HS := HS.call HQ; clear HQ; (try clear F); (try simp only [hpn, hpm] at HS); have F := HS.boxes; simp only [boxFacts, and_true] at F))
           go_ret
           exact ⟨rfl, HS.pick [] (by decide) (by rfl)⟩
       · replace H := zneg c31 H
         replace c31 := eq_false_of_ne_true c31
         subst c31
         obtain rfl := zsome H
         go_wp2_with (first | ((with_reducible refine gate_dst (N := 46) rfl ?_); refine gate_guard (by rfl) ?_; refine ev_call rfl Try.func72 (by kernel_rfl) rfl #[.int .i64 a0.f1, .int .i64 0, .int .i64 1000000000] rfl (by simp only [List.map_toArray, List.map_cons, List.map_nil]; rfl) ?_; refine (spec_l01In.calls ht29.out).mono ?_; rintro _ wt29 ⟨rfl, HQ⟩; refine ⟨_, rfl, ?_⟩; replace HS := HS.call HQ; clear HQ; (try clear F); (try simp only [hpn, hpm] at HS); have F := HS.boxes; simp only [boxFacts, and_true] at F))
         go_ret
         exact ⟨rfl, HS.pick [] (by decide) (by rfl)⟩
     · replace H := zneg c28 H
       have c28a := beq_eq_false_iff_ne.mpr c28
       have c28b := bne_iff_ne.mpr c28
       clear c28
       obtain rfl := zsome H
       go_wp2
       go_ret
       exact ⟨rfl, HS.pick [] (by decide) (by rfl)⟩
/-! ### spec_l09Bytes: function 116 -/
def spec_l09Bytes.f (a0 : ByteArray) : Option (S100) := (some (⟨4, a0, ([] : List S100)⟩ : S100))
set_option maxHeartbeats 16000000 in
theorem spec_l09Bytes.calls {a0 : ByteArray} {r : S100} {w : World} (h : spec_l09Bytes.f a0 = some r) :
    Calls Try.prog 116 #[.string a0] w (fun e w' => ∃ v0_ : Value, e = .returned (.agg #[.int .i64 r.f0, .string r.f1, v0_]) ∧ Hp noFP w w' [.own (Zd.slice 100 q100) r.f2 [v0_]]) := by
 have HS := Hp.start w
 have H := Aside0.mk h
 clear h
 unfold spec_l09Bytes.f at H
 go_enter Try.func116, Try.ntmps116
 obtain rfl := zsome H
 go_wp2_with (first | ((with_reducible refine gate_dst (N := 2) rfl ?_); refine ev_box rfl HS (by first | (go_simp; done) | (go_simp; rfl)) rfl ?_; clear HS; (try clear F); intro g2 w2 HS; (try simp only [hpn, hpm] at HS); have F := HS.boxes; simp only [boxFacts, and_true] at F) | ((with_reducible refine gate_store (p := 2) rfl ?_); refine ev_store rfl 0 0 HS (seg := [.int .i64 4, .string a0, .slice none 0 0]) rfl rfl rfl rfl rfl rfl (by kernel_rfl) (by simp [wrt]) (by simp [Value.oneCell']) ?_; clear HS; (try clear F); intro w3 HS; (try simp only [hpn, hpm] at HS); have F := HS.boxes; simp only [boxFacts, and_true] at F))
 replace HS := HS.nil 100 q100
 exact bodyPost_ret (results_single rfl (.cell _ _ _ _ _ rfl (HS.boxAt (i := 0) rfl) Try.underlying100 rfl (by kernel_rfl) .nil)) rfl ⟨_, rfl, HS.pick [1] (by decide) (by rfl)⟩
/-! ### spec_l14Texts: function 142 -/
def spec_l14Texts.l0 : Nat → (List S100) → Int → (List ByteArray) → Option (S100)
  | 0, _, _, _ => none
  | k + 1, l19, x21, a0 => (if x21 < (a0.length : Int) then (if 0 ≤ x21 then (if x21 < (a0.length : Int) then ((spec_l09Bytes.f (rdOf ByteArray.empty a0 x21)).bind fun t206001 => (if l19.length + 1 ≤ 2932031007402 then (lets (l19 ++ ([t206001] : List S100)) fun y208999 => (spec_l14Texts.l0 k y208999 (wrap64 (x21 + 1)) a0)) else none)) else none) else none) else (some (⟨48, (⟨#[]⟩ : ByteArray), l19⟩ : S100)))
def spec_l14Texts.f (k : Nat) (a0 : (List ByteArray)) : Option (S100) := (spec_l14Texts.l0 k [] 0 a0)
def spec_l14Texts.T5 : Bool × List (List Nat × List Nat) := (true, [([], []), ([0], [0]), ([], []), ([], []), ([2, 3], [2, 3]), ([4], [4]), ([5], [5]), ([6], [6]), ([1, 7, 6], [1, 7]), ([0, 1, 2, 3, 4, 5, 6, 7, 8], []), ([9, 8, 8, 0, 1, 2, 3, 4, 5, 6, 7, 8], [8, 9])])
theorem spec_l14Texts.tT5 : rtab .any (opsOf Try.f142 5) = spec_l14Texts.T5 := by kernel_rfl
set_option maxHeartbeats 16000000 in
theorem spec_l14Texts.calls {k : Nat} {a0 : (List ByteArray)} {Ap0 : Option Addr} {np0 cp0 : Nat} {r : S100} {w : World} (h : spec_l14Texts.f k a0 = some r) (gp0 : Kd.string.C w Ap0 np0 a0) (lp0 : np0 ≤ cp0) :
    Calls Try.prog 142 #[.slice Ap0 np0 cp0] w (fun e w' => ∃ v0_ : Value, e = .returned (.agg #[.int .i64 r.f0, .string r.f1, v0_]) ∧ Hp noFP w w' [.own (Zd.slice 100 q100) r.f2 [v0_]]) := by
 obtain rfl := C_len gp0
 have HS := Hp.start w
 have H := Aside0.mk h
 clear h
 unfold spec_l14Texts.f at H
 go_enter Try.func142, Try.ntmps142
 go_wp2_with (first | ((with_reducible refine gate_dst (N := 2) rfl ?_); refine ev_box rfl HS (by first | (go_simp; done) | (go_simp; rfl)) rfl ?_; clear HS; (try clear F); intro g2 w2 HS; (try simp only [hpn, hpm] at HS); have F := HS.boxes; simp only [boxFacts, and_true] at F) | ((with_reducible refine gate_dst (N := 3) rfl ?_); refine ev_box rfl HS (by first | (go_simp; done) | (go_simp; rfl)) rfl ?_; clear HS; (try clear F); intro g3 w3 HS; (try simp only [hpn, hpm] at HS); have F := HS.boxes; simp only [boxFacts, and_true] at F) | ((with_reducible refine gate_store (p := 3) rfl ?_); refine ev_store rfl 1 0 HS (seg := [.int .i64 48, .string (⟨#[]⟩ : ByteArray), .slice none 0 0]) rfl rfl rfl rfl rfl rfl (by kernel_rfl) (by simp [wrt]) (by simp [Value.oneCell']) ?_; clear HS; (try clear F); intro w5 HS; (try simp only [hpn, hpm] at HS); have F := HS.boxes; simp only [boxFacts, and_true] at F))
 replace HS := HS.nil 100 q100
 go_loopg [4] k (fun kq v_4 w' => ∃ (l19 : List S100) (v20 : Value) (x21 : Int), v_4 = .int .i64 x21 ∧ Aside0 (spec_l14Texts.l0 kq l19 x21 a0 = some r) ∧ Aside0 (kq ≤ k) ∧ Hp noFP w w' [.box g2 [.int .i64 0, .string (⟨#[]⟩ : ByteArray), .slice none 0 0] 100, .box g3 [.int .i64 48, .string (⟨#[]⟩ : ByteArray), v20] 100, .own (Zd.slice 100 q100) l19 [v20]])
 case atStart => exact ⟨_, _, _, rfl, H, ⟨Nat.le_refl _⟩, HS⟩
 case round =>
  clear HS H; (try clear F)
  obtain ⟨l19, v20, x21, rfl, H, HKk18, HS⟩ := hrel
  obtain ⟨B20, d20, rfl, m20⟩ := HS.form 2 rfl
  have F := HS.boxes; simp only [boxFacts, and_true] at F
  cases gk with
  | zero => exact absurd H.out (by simp [spec_l14Texts.l0])
  | succ k18 =>
   simp only [spec_l14Texts.l0] at H
   by_cases c23 : x21 < (a0.length : Int)
   · replace H := zpos c23 H
     replace c23 := eq_true c23
     (try go_wp2)
     by_cases c204001 : 0 ≤ x21
     case neg => exact zno c204001 H
     replace H := zpos c204001 H
     replace c204001 := eq_true c204001
     by_cases c204002 : x21 < (a0.length : Int)
     case neg => exact zno c204002 H
     replace H := zpos c204002 H
     replace c204002 := eq_true c204002
     obtain ⟨ad204999, rfl, e204999_0⟩ := Kd.at_string gp0 x21 (of_eq_true c204001) (of_eq_true c204002)
     replace H := zbind H; obtain ⟨t206001, ht206001, H⟩ := H
     by_cases c208001 : l19.length + 1 ≤ 2932031007402
     case neg => exact zno c208001 H
     replace H := zpos c208001 H
     replace c208001 := eq_true c208001
     replace H := zlets H; obtain ⟨y208999, e_y208999, H⟩ := H
     refine dr_start2 [.box g2 [.int .i64 0, .string (⟨#[]⟩ : ByteArray), .slice none 0 0] 100, .box g3 [.int .i64 48, .string (⟨#[]⟩ : ByteArray), .slice B20 l19.length d20] 100, .emp] [10] HS (HS.arr [some 0, some 1, none] (by decide)) #[false, false, false, false, false, false, false, false, false, false, false] (by kernel_rfl) rfl rfl spec_l14Texts.tT5 (fun w25 HT HS HH => ?_)
     (try clear F)
     refine drq_of [(0, some 12), (1, some 13), (2, some 14), (3, some 15), (4, some 16)] ?_
     repeat (first | (refine drq_pure HT (v := ?_) (a' := ?_) rfl rfl (by kernel_rfl) (fun _ _ _ h => h) (.inl ⟨by rfl, ?_⟩) ?_ ?_; rotate_left; (intro w'; go_simp; with_reducible rfl); rotate_left; (simp only [Act.put, List.setIfInBounds_toArray, List.set_cons_zero, List.set_cons_succ, i64_w, i32_w]; rfl)) | (refine drq_take HT HH (v := ?_) (a' := ?_) rfl rfl (by kernel_rfl) (fun _ _ _ h => h) (.inl ⟨by rfl, ?_⟩) ?_ ?_; rotate_left; (rintro w' ⟨rs', HS'⟩; have F := HS'.boxes; simp only [boxFacts, List.cons_append, List.nil_append, and_true] at F; go_simp; with_reducible rfl); rotate_left; (simp only [Act.put, List.setIfInBounds_toArray, List.set_cons_zero, List.set_cons_succ, i64_w, i32_w]; rfl)))
     refine drq_end ?_
     refine dr_take 5 (some 17) HT HH (v := ?_) (a' := ?_) rfl rfl (by kernel_rfl) (fun _ _ _ h => h) (.inl ⟨by rfl, ?_⟩) ?_ ?_
     rotate_left
     · rintro w' ⟨rs', HS'⟩; have e204999_0 := (HS'.keepc e204999_0); go_simp; with_reducible rfl
     rotate_left
     · simp only [Act.put, List.setIfInBounds_toArray, List.set_cons_zero, List.set_cons_succ, i64_w, i32_w]; rfl
     refine dr_one 6 HT rfl (by kernel_rfl) (by decide) (fun K hK => ?_)
     refine goes_ Try.func116 (by kernel_rfl) rfl #[.string (rdOf ByteArray.empty a0 x21)] (by rfl) rfl rfl (by simp only [List.map_toArray, List.map_cons, List.map_nil]; rfl) ?_; refine (spec_l09Bytes.calls ht206001.out).mono ?_; rintro _ wt206001 ⟨v206002, rfl, HQ⟩; refine ⟨_, rfl, ?_⟩; replace HS := HS.call HQ; clear HQ; (try clear F); obtain ⟨B206002, d206002, rfl, m206002⟩ := HS.form 3 rfl
     (try simp only [hpn, hpm] at HS)
     have F := HS.boxes; simp only [boxFacts, and_true] at F
     refine hK.out _ _ ⟨[], HS.arr [some 0, some 1, none] (by decide)⟩ (fun HH => ?_)
     clear hK K
     refine norm_ (a' := ?_) ?_ ?_
     rotate_left
     · show Act.put _ (some 18) _ = _; simp only [Act.put, List.setIfInBounds_toArray, List.set_cons_zero, List.set_cons_succ, i64_w, i32_w]; rfl
     refine dr_one 7 HT rfl (by kernel_rfl) (by decide) (fun K hK => ?_)
     refine if_wp (by rfl) ?_; refine wp_lit q100 [3] ([t206001] : List S100) ([.int .i64 t206001.f0, .string t206001.f1, .slice B206002 t206001.f2.length d206002] ++ []) HS (by first | (go_simp; done) | (go_simp; rfl)) rfl rfl (Nat.le_of_ble_eq_true rfl) (MadeL.cons (js1 := [3]) (c := [.int .i64 t206001.f0, .string t206001.f1, .slice B206002 t206001.f2.length d206002]) rfl (fun S hd hh => q100_pack (x := t206001) hd (hh 3 (.own (Zd.slice 100 q100) t206001.f2 [.slice B206002 t206001.f2.length d206002]) rfl) (by decide)) MadeL.nil (by decide)) ?_; clear HS; (try clear F); intro v207001 w207001 HS; obtain ⟨B207001, d207001, rfl, m207001⟩ := HS.formn 1 4 rfl rfl
     (try simp only [hpn, hpm] at HS)
     have F := HS.boxes; simp only [boxFacts, and_true] at F
     refine hK.out _ _ ⟨[], HS.arr [some 0, some 1, none] (by decide)⟩ (fun HH => ?_)
     clear hK K
     refine norm_ (a' := ?_) ?_ ?_
     rotate_left
     · show Act.put _ (some 19) _ = _; simp only [Act.put, List.setIfInBounds_toArray, List.set_cons_zero, List.set_cons_succ, i64_w, i32_w]; rfl
     refine dr_one 8 HT rfl (by kernel_rfl) (by decide) (fun K hK => ?_)
     refine if_wp (by rfl) ?_; refine wp_append q100 2 4 HS rfl rfl (by decide) rfl rfl rfl Try.underlying98 info100 rfl (by decide) (by decide) (by have := of_eq_true c208001; first | omega | (simp only [List.length_cons, List.length_nil, List.length_append, Nat.zero_add] at this ⊢; omega)) ?_; clear HS; (try clear F); intro v208999 w208999 HS; rw [← e_y208999.out] at HS; obtain ⟨B208999, d208999, rfl, m208999⟩ := HS.form 5 rfl
     (try simp only [hpn, hpm] at HS)
     have F := HS.boxes; simp only [boxFacts, and_true] at F
     refine hK.out _ _ ⟨[], HS.arr [some 0, some 1, none] (by decide)⟩ (fun HH => ?_)
     clear hK K
     refine norm_ (a' := ?_) ?_ ?_
     rotate_left
     · show Act.put _ (some 20) _ = _; simp only [Act.put, List.setIfInBounds_toArray, List.set_cons_zero, List.set_cons_succ, i64_w, i32_w]; rfl
     refine drq_of [(9, some 21)] ?_
     repeat (first | (refine drq_pure HT (v := ?_) (a' := ?_) rfl rfl (by kernel_rfl) (fun _ _ _ h => h) (.inl ⟨by rfl, ?_⟩) ?_ ?_; rotate_left; (intro w'; go_simp; with_reducible rfl); rotate_left; (simp only [Act.put, List.setIfInBounds_toArray, List.set_cons_zero, List.set_cons_succ, i64_w, i32_w]; rfl)))
     refine drq_end ?_
     refine dr_last 10 HT rfl (by kernel_rfl) (by decide) (fun K hK => ?_)
     refine if_wp (by rfl) ?_; refine wp_store 1 2 HS (seg := [.slice B208999 y208999.length d208999]) rfl rfl rfl rfl rfl rfl (by kernel_rfl) (by simp [wrt]) (by simp [Value.oneCell']) ?_; clear HS; (try clear F); intro w210001 HS
     (try simp only [hpn, hpm] at HS)
     have F := HS.boxes; simp only [boxFacts, and_true] at F
     refine hK.out _ _ ?_
     clear hK K
     refine done_ (done_of HT.out (by kernel_rfl)) ?_
     (try clear F)
     have F := HS.boxes; simp only [boxFacts, and_true] at F
     go_wp2
     go_roundg k18
     case measure => have := HKk18.out; omega
     case rel => exact ⟨_, _, _, rfl, H, ⟨by have := HKk18.out; omega⟩, HS.pick [0, 1, 5] (by decide) (by rfl)⟩
   · replace H := zneg c23 H
     replace c23 := eq_false c23
     obtain rfl := zsome H
     go_wp2_with (first | ((with_reducible refine gate_store (p := 2) rfl ?_); refine ev_store rfl 0 0 HS (seg := [.int .i64 48, .string (⟨#[]⟩ : ByteArray), .slice B20 l19.length d20]) rfl rfl rfl rfl rfl rfl (by kernel_rfl) (by simp [wrt]) (by simp [Value.oneCell']) ?_; clear HS; (try clear F); intro w27 HS; (try simp only [hpn, hpm] at HS); have F := HS.boxes; simp only [boxFacts, and_true] at F))
     exact bodyPost_ret (results_single rfl (.cell _ _ _ _ _ rfl (HS.boxAt (i := 0) rfl) Try.underlying100 rfl (by kernel_rfl) .nil)) rfl ⟨_, rfl, HS.pick [2] (by decide) (by rfl)⟩
end Go.Proofs.Ytoaoncnbimcdgaa.F
