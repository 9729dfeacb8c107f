/- Functions of the program and of the law, and that their calls do what is written here. -/
import Derived.Test.YtacocpknielofaaGreatDoorZgFnExactStoreOkg
import Derived.Test.YtacocpknielofaaGreatDoorZgFnExactStoreOkh
import Derived.Test.YtacocpknielofaaGreatDoorZgFnExactStoreOki
namespace Go.Proofs.YtacocpknielofaaGreatDoor.F
open Go.RowKit Go.Proofs.YtacocpknielofaaGreatDoorW.PrintWords Go.Proofs.YtacocpknielofaaGreatDoorW.PrintLast Go.Proofs.YtacocpknielofaaGreatDoorW.PrintMore Go.Proofs.YtacocpknielofaaGreatDoor.Z
attribute [local go_sem] max2_int min2_int max_two min_two max_three min_three max_four min_four
set_option linter.unusedVariables false
set_option linter.unusedSimpArgs false
set_option maxRecDepth 100000
/-! ### impl_Cert_63_0: function 63 -/
def impl_Cert_63_0.l0 : Nat → (List ByteArray) → Int → (List S91) → Option (Bool)
  | 0, _, _, _ => none
  | k + 1, l19, x21, a0 => (if x21 < (a0.length : Int) then (if 0 ≤ x21 then (if x21 < (a0.length : Int) then ((impl_CertText.f k (rd_T91 a0 x21)).bind fun t31 => (if t31.2 = true then ((slices_Contains_string_string.f k l19 t31.1).bind fun t34 => (if t34 = true then (some false) else (if l19.length + 1 ≤ 8796093022208 then (lets (l19 ++ ([t31.1] : List ByteArray)) fun y40 => (impl_Cert_63_0.l0 k y40 (wrap64 (x21 + 1)) a0)) else none))) else (some false))) else none) else none) else (some true))
def impl_Cert_63_0.f (k : Nat) (a0 : (List S91)) : Option (Bool) := (impl_Cert_63_0.l0 k [] 0 a0)
set_option maxHeartbeats 16000000 in
theorem impl_Cert_63_0.calls {k : Nat} {a0 : (List S91)} {Ap0 : Option Addr} {np0 cp0 : Nat} {mG : Int} {r : Bool} {w : World} (h : impl_Cert_63_0.f k a0 = some r) (gp0 : k91.C w Ap0 np0 a0) (lp0 : np0 ≤ cp0) (hgM : w.cell? ⟨0, 0, none⟩ = some (.int .i64 mG)) :
    Calls Tryz.prog 63 #[.slice Ap0 np0 cp0, .func (.func 64) #[] #[]] w (fun e w' => e = .returned (.bool r) ∧ Hp noFP w w' []) := by
 obtain rfl := C_len gp0
 have HS := Hp.start w
 have H := Aside0.mk h
 clear h
 unfold impl_Cert_63_0.f at H
 go_enter Tryz.func63, Tryz.ntmps63
 go_wp2
 replace HS := HS.nil 9 Zd.string
 go_loopg [5, 12] k (fun kq v_5 v_12 w' => ∃ (l19 : List ByteArray) (v20 : Value) (x21 : Int), v_5 = v20 ∧ v_12 = .int .i64 x21 ∧ Aside0 (impl_Cert_63_0.l0 kq l19 x21 a0 = some r) ∧ Aside0 (kq ≤ k) ∧ Hp noFP w w' [.own (Zd.slice 9 Zd.string) l19 [v20]])
 case atStart => exact ⟨_, _, _, rfl, rfl, H, ⟨Nat.le_refl _⟩, HS⟩
 case round =>
  clear HS H; (try clear F)
  obtain ⟨l19, v20, x21, rfl, rfl, H, HKk18, HS⟩ := hrel
  obtain ⟨B20, d20, rfl, m20⟩ := HS.form 0 rfl
  cases gk with
  | zero => exact absurd H.out (by simp [impl_Cert_63_0.l0])
  | succ k18 =>
   simp only [impl_Cert_63_0.l0] at H
   by_cases c23 : x21 < (a0.length : Int)
   case neg =>
    replace H := zneg c23 H
    replace c23 := eq_false c23
    obtain rfl := zsome H
    go_wp2
    go_ret
    exact HS.pk
   replace H := zpos c23 H
   replace c23 := eq_true c23
   obtain ⟨c24, H⟩ := zgo H
   obtain ⟨c25, H⟩ := zgo H
   obtain ⟨ad26, B26_9, d26_9, B26_10, d26_10, B26_11, d26_11, rfl, e26_0, e26_1, e26_2, e26_3, e26_4, e26_5, e26_6, e26_7, e26_8, e26_9, e26_10, e26_11, e26_12, m26_9, y26_9, m26_10, y26_10, m26_11, y26_11⟩ := at_T91 gp0 x21 (of_eq_true c24) (of_eq_true c25)
   have e26_0_26 := (HS.keepc e26_0)
   have e26_1_26 := (HS.keepc e26_1)
   have e26_2_26 := (HS.keepc e26_2)
   have e26_3_26 := (HS.keepc e26_3)
   have e26_4_26 := (HS.keepc e26_4)
   have e26_5_26 := (HS.keepc e26_5)
   have e26_6_26 := (HS.keepc e26_6)
   have e26_7_26 := (HS.keepc e26_7)
   have e26_8_26 := (HS.keepc e26_8)
   have e26_9_26 := (HS.keepc e26_9)
   have e26_10_26 := (HS.keepc e26_10)
   have e26_11_26 := (HS.keepc e26_11)
   have e26_12_26 := (HS.keepc e26_12)
   replace H := zbind H; obtain ⟨t31, ht31, H⟩ := H
   by_cases c33 : t31.2 = true
   case neg =>
    replace H := zneg c33 H
    replace c33 := eq_false_of_ne_true c33
    obtain rfl := zsome H
    go_wp2_with (first | ((with_reducible refine gate_dst (N := 7) rfl ?_); refine ev_bx HS ?_; clear HS; (try clear F); intro g7 w7 HS F) | ((with_reducible refine gate_store (p := 7) rfl ?_); refine ev_st 1 0 HS (seg := [.int .i64 ((rd_T91 a0 x21).f0), .string ((rd_T91 a0 x21).f1), .string ((rd_T91 a0 x21).f2), .int .i64 ((rd_T91 a0 x21).f3), .int .i64 ((rd_T91 a0 x21).f4), .string ((rd_T91 a0 x21).f5), .bool ((rd_T91 a0 x21).f6), .int .i64 ((rd_T91 a0 x21).f7), .int .i64 ((rd_T91 a0 x21).f8), .slice B26_9 (rd_T91 a0 x21).f9.length d26_9, .slice B26_10 (rd_T91 a0 x21).f10.length d26_10, .slice B26_11 (rd_T91 a0 x21).f11.length d26_11, .string ((rd_T91 a0 x21).f12)]) ?_; clear HS; (try clear F); intro w29 HS F) | ((with_reducible refine gate_dst (N := 19) rfl ?_); refine ev_callv rfl Tryz.func64 (by kernel_rfl) rfl #[.agg #[.int .i64 ((rd_T91 a0 x21).f0), .string ((rd_T91 a0 x21).f1), .string ((rd_T91 a0 x21).f2), .int .i64 ((rd_T91 a0 x21).f3), .int .i64 ((rd_T91 a0 x21).f4), .string ((rd_T91 a0 x21).f5), .bool ((rd_T91 a0 x21).f6), .int .i64 ((rd_T91 a0 x21).f7), .int .i64 ((rd_T91 a0 x21).f8), .slice B26_9 (rd_T91 a0 x21).f9.length d26_9, .slice B26_10 (rd_T91 a0 x21).f10.length d26_10, .slice B26_11 (rd_T91 a0 x21).f11.length d26_11, .string ((rd_T91 a0 x21).f12)]] #[.agg #[.int .i64 ((rd_T91 a0 x21).f0), .string ((rd_T91 a0 x21).f1), .string ((rd_T91 a0 x21).f2), .int .i64 ((rd_T91 a0 x21).f3), .int .i64 ((rd_T91 a0 x21).f4), .string ((rd_T91 a0 x21).f5), .bool ((rd_T91 a0 x21).f6), .int .i64 ((rd_T91 a0 x21).f7), .int .i64 ((rd_T91 a0 x21).f8), .slice B26_9 (rd_T91 a0 x21).f9.length d26_9, .slice B26_10 (rd_T91 a0 x21).f10.length d26_10, .slice B26_11 (rd_T91 a0 x21).f11.length d26_11, .string ((rd_T91 a0 x21).f12)]] rfl rfl (by simp only [mpn]; rfl) (by first | rfl | simp) ?_; refine (impl_CertText.calls ht31.out (HS.ro y26_9) m26_9 (HS.ro y26_10) m26_10 (HS.ro y26_11) m26_11 (HS.keepc hgM)).mono ?_; rintro _ wt31 ⟨rfl, HQ⟩; refine ⟨_, rfl, ?_⟩; replace HS := HS.call HQ; clear HQ; (try clear F); (try simp only [hpn, hpm] at HS); have F := HS.boxes; simp only [bxn] at F; (try simp only [c33])))
    go_ret
    exact HS.pk
   replace H := zpos c33 H
   replace H := zbind H; obtain ⟨t34, ht34, H⟩ := H
   go_upto_if 28 with (first | ((with_reducible refine gate_dst (N := 7) rfl ?_); refine ev_bx HS ?_; clear HS; (try clear F); intro g7 w7 HS F) | ((with_reducible refine gate_store (p := 7) rfl ?_); refine ev_st 1 0 HS (seg := [.int .i64 ((rd_T91 a0 x21).f0), .string ((rd_T91 a0 x21).f1), .string ((rd_T91 a0 x21).f2), .int .i64 ((rd_T91 a0 x21).f3), .int .i64 ((rd_T91 a0 x21).f4), .string ((rd_T91 a0 x21).f5), .bool ((rd_T91 a0 x21).f6), .int .i64 ((rd_T91 a0 x21).f7), .int .i64 ((rd_T91 a0 x21).f8), .slice B26_9 (rd_T91 a0 x21).f9.length d26_9, .slice B26_10 (rd_T91 a0 x21).f10.length d26_10, .slice B26_11 (rd_T91 a0 x21).f11.length d26_11, .string ((rd_T91 a0 x21).f12)]) ?_; clear HS; (try clear F); intro w29 HS F) | ((with_reducible refine gate_dst (N := 19) rfl ?_); refine ev_callv rfl Tryz.func64 (by kernel_rfl) rfl #[.agg #[.int .i64 ((rd_T91 a0 x21).f0), .string ((rd_T91 a0 x21).f1), .string ((rd_T91 a0 x21).f2), .int .i64 ((rd_T91 a0 x21).f3), .int .i64 ((rd_T91 a0 x21).f4), .string ((rd_T91 a0 x21).f5), .bool ((rd_T91 a0 x21).f6), .int .i64 ((rd_T91 a0 x21).f7), .int .i64 ((rd_T91 a0 x21).f8), .slice B26_9 (rd_T91 a0 x21).f9.length d26_9, .slice B26_10 (rd_T91 a0 x21).f10.length d26_10, .slice B26_11 (rd_T91 a0 x21).f11.length d26_11, .string ((rd_T91 a0 x21).f12)]] #[.agg #[.int .i64 ((rd_T91 a0 x21).f0), .string ((rd_T91 a0 x21).f1), .string ((rd_T91 a0 x21).f2), .int .i64 ((rd_T91 a0 x21).f3), .int .i64 ((rd_T91 a0 x21).f4), .string ((rd_T91 a0 x21).f5), .bool ((rd_T91 a0 x21).f6), .int .i64 ((rd_T91 a0 x21).f7), .int .i64 ((rd_T91 a0 x21).f8), .slice B26_9 (rd_T91 a0 x21).f9.length d26_9, .slice B26_10 (rd_T91 a0 x21).f10.length d26_10, .slice B26_11 (rd_T91 a0 x21).f11.length d26_11, .string ((rd_T91 a0 x21).f12)]] rfl rfl (by simp only [mpn]; rfl) (by first | rfl | simp) ?_; refine (impl_CertText.calls ht31.out (HS.ro y26_9) m26_9 (HS.ro y26_10) m26_10 (HS.ro y26_11) m26_11 (HS.keepc hgM)).mono ?_; rintro _ wt31 ⟨rfl, HQ⟩; refine ⟨_, rfl, ?_⟩; replace HS := HS.call HQ; clear HQ; (try clear F); (try simp only [hpn, hpm] at HS); have F := HS.boxes; simp only [bxn] at F; (try simp only [c33])) | ((with_reducible refine gate_dst (N := 27) rfl ?_); refine gate_guard (by rfl) ?_; refine ev_cl HS (slices_Contains_string_string.calls ht34.out (HS.rd 0 rfl) m20) Tryz.func143 ?_; clear HS; (try clear F); intro wt34 HS F))
   by_cases c36 : t34 = true
   case pos =>
    replace H := zpos c36 H
    subst c36
    (try simp only [dcn, if_true, Bool.false_eq_true, if_false])
    obtain rfl := zsome H
    go_wp2
    go_ret
    exact HS.pk
   replace H := zneg c36 H
   replace c36 := eq_false_of_ne_true c36
   subst c36
   (try simp only [dcn, if_true, Bool.false_eq_true, if_false])
   obtain ⟨c39, H⟩ := zgo H
   replace H := zlets H; obtain ⟨y40, e_y40, H⟩ := H
   go_wp2_with (first | ((with_reducible refine gate_dst (N := 31) rfl ?_); refine ev_lit rfl Zd.string [] ([t31.1] : List ByteArray) ([.string t31.1] ++ []) HS (by first | (go_simp; done) | (go_simp; rfl)) rfl rfl (Nat.le_of_ble_eq_true rfl) (MadeL.cons (js1 := []) (c := [.string t31.1]) rfl (made_flat (fun _ => rfl)) MadeL.nil (by decide)) ?_; clear HS; (try clear F); intro v37 w37 HS; obtain ⟨B37, d37, rfl, m37⟩ := HS.formn 1 2 rfl rfl; (try simp only [hpn, hpm] at HS); have F := HS.boxes; simp only [bxn] at F) | ((with_reducible refine gate_dst (N := 32) rfl ?_); refine ev_append rfl Zd.string 0 2 HS rfl rfl (by decide) rfl rfl rfl Tryz.underlying57 info9 rfl (by decide) (by decide) (by have := of_eq_true c39; first | omega | (simp only [List.length_cons, List.length_nil, List.length_append, Nat.zero_add] at this ⊢; omega)) ?_; clear HS; (try clear F); intro v40 w40 HS; rw [← e_y40.out] at HS; obtain ⟨B40, d40, rfl, m40⟩ := HS.form 3 rfl; (try simp only [hpn, hpm] at HS); have F := HS.boxes; simp only [bxn] at F))
   go_roundg k18
   case measure => have := HKk18.out; omega
   case rel => exact ⟨_, _, _, rfl, rfl, H, ⟨by have := HKk18.out; omega⟩, HS.pick [3] (by decide) (by rfl)⟩
/-! ### impl_CrlOk: function 148 -/
def impl_CrlOk.l0 : Nat → Int → S81 → Option (Bool)
  | 0, _, _ => none
  | k + 1, x23, a0 => (if x23 < (a0.f5.length : Int) then (if 0 ≤ x23 then (if x23 < (a0.f5.length : Int) then ((impl_timeOk.f ((rd_T238 a0.f5 x23).f0)).bind fun t102001 => (if t102001 = true then ((impl_within.f ((rd_T238 a0.f5 x23).f1) 1 10).bind fun t107001 => (if t107001 = true then (if (rd_T238 a0.f5 x23).f1 = 8 then (if a0.f4 = 0 then (some false) else (if 0 < x23 then (if 0 ≤ (wrap64 (x23 - 1)) then (if (wrap64 (x23 - 1)) < (a0.f5.length : Int) then (if (rd_T238 a0.f5 x23).f0 ≤ (rd_T238 a0.f5 (wrap64 (x23 - 1))).f0 then (some false) else (impl_CrlOk.l0 k (wrap64 (x23 + 1)) a0)) else none) else none) else (impl_CrlOk.l0 k (wrap64 (x23 + 1)) a0))) else (if 0 < x23 then (if 0 ≤ (wrap64 (x23 - 1)) then (if (wrap64 (x23 - 1)) < (a0.f5.length : Int) then (if (rd_T238 a0.f5 x23).f0 ≤ (rd_T238 a0.f5 (wrap64 (x23 - 1))).f0 then (some false) else (impl_CrlOk.l0 k (wrap64 (x23 + 1)) a0)) else none) else none) else (impl_CrlOk.l0 k (wrap64 (x23 + 1)) a0))) else (some false))) else (some false))) else none) else none) else (some true))
def impl_CrlOk.f (k : Nat) (a0 : S81) : Option (Bool) := ((impl_NameOk.f k a0.f0).bind fun t3 => (if t3 = true then ((impl_within.f a0.f1 1 9999).bind fun t6 => (if t6 = true then ((impl_within.f a0.f4 0 (wrap64 (a0.f1 - 1))).bind fun t9 => (if t9 = true then ((impl_timeOk.f a0.f2).bind fun t12 => (if t12 = true then ((impl_timeOk.f a0.f3).bind fun t15 => (if t15 = true then (if 8 < (a0.f5.length : Int) then (some false) else (if (a0.f6.size : Int) = 15 then (impl_CrlOk.l0 k 0 a0) else (some false))) else (some false))) else (some false))) else (some false))) else (some false))) else (some false)))
def impl_CrlOk.T6 : Bool × List (List Nat × List Nat) := (true, [([], []), ([0], [0]), ([1], [1]), ([2], [2]), ([3, 2], [3]), ([4], [4]), ([5, 4], [4, 5]), ([6, 4, 4], [4, 6]), ([7, 4], [4, 7]), ([4, 8], [4, 8]), ([9, 7], [9]), ([10], [10]), ([11, 10], [10, 11]), ([12, 10], [10, 12]), ([13, 10, 10], [10, 13]), ([14], [14]), ([15, 14], [14, 15]), ([16, 14], [14, 16]), ([14, 17, 10], [10, 14, 17]), ([10, 18], [10, 18]), ([19, 14], [19]), ([20], [20]), ([21, 20], [20, 21]), ([22, 20, 20], [20, 22]), ([23], [23]), ([24, 23], [23, 24]), ([23], [23]), ([26, 23], [23, 26]), ([25, 27, 23], [23, 25, 27]), ([28, 23], [23, 28]), ([29, 23], [23, 29]), ([23], [23]), ([31, 23], [23, 31]), ([30, 32, 23], [23, 30, 32]), ([23, 33, 20], [20, 23, 33]), ([20, 34], [20, 34])])
theorem impl_CrlOk.tT6 : rtab .any (opsOf Tryz.f148 6) = impl_CrlOk.T6 := by kernel_rfl
set_option maxHeartbeats 16000000 in
theorem impl_CrlOk.calls {k : Nat} {a0 : S81} {Ap0 : Option Addr} {np0 cp0 : Nat} {mG : Int} {r : Bool} {w : World} (h : impl_CrlOk.f k a0 = some r) (gp0 : k238.C w Ap0 np0 a0.f5) (lp0 : np0 ≤ cp0) (hgM : w.cell? ⟨0, 0, none⟩ = some (.int .i64 mG)) :
    Calls Tryz.prog 148 #[.agg #[.string a0.f0, .int .i64 a0.f1, .int .i64 a0.f2, .int .i64 a0.f3, .int .i64 a0.f4, .slice Ap0 np0 cp0, .string a0.f6]] w (fun e w' => e = .returned (.bool r) ∧ Hp noFP w w' []) := by
 obtain rfl := C_len gp0
 have HS := Hp.start w
 have H := Aside0.mk h
 clear h
 unfold impl_CrlOk.f at H
 go_enter Tryz.func148, Tryz.ntmps148
 replace H := zbind H; obtain ⟨t3, ht3, H⟩ := H
 by_cases c5 : t3 = true
 case neg =>
  replace H := zneg c5 H
  replace c5 := eq_false_of_ne_true c5
  subst c5
  obtain rfl := zsome H
  go_wp2_with (first | ((with_reducible refine gate_dst (N := 1) rfl ?_); refine ev_bx HS ?_; clear HS; (try clear F); intro g1 w1 HS F) | ((with_reducible refine gate_dst (N := 7) rfl ?_); refine ev_cl HS (impl_NameOk.calls ht3.out (HS.keepc hgM)) Tryz.func62 ?_; clear HS; (try clear F); intro wt3 HS F))
  go_ret
  exact HS.pk
 replace H := zpos c5 H
 subst c5
 replace H := zbind H; obtain ⟨t6, ht6, H⟩ := H
 by_cases c8 : t6 = true
 case neg =>
  replace H := zneg c8 H
  replace c8 := eq_false_of_ne_true c8
  subst c8
  obtain rfl := zsome H
  go_wp2_with (first | ((with_reducible refine gate_dst (N := 1) rfl ?_); refine ev_bx HS ?_; clear HS; (try clear F); intro g1 w1 HS F) | ((with_reducible refine gate_dst (N := 7) rfl ?_); refine ev_cl HS (impl_NameOk.calls ht3.out (HS.keepc hgM)) Tryz.func62 ?_; clear HS; (try clear F); intro wt3 HS F) | ((with_reducible refine gate_dst (N := 12) rfl ?_); refine gate_guard (by rfl) ?_; refine ev_cl HS (impl_within.calls ht6.out) Tryz.func79 ?_; clear HS; (try clear F); intro wt6 HS F))
  go_ret
  exact HS.pk
 replace H := zpos c8 H
 subst c8
 replace H := zbind H; obtain ⟨t9, ht9, H⟩ := H
 by_cases c11 : t9 = true
 case neg =>
  replace H := zneg c11 H
  replace c11 := eq_false_of_ne_true c11
  subst c11
  obtain rfl := zsome H
  go_wp2_with (first | ((with_reducible refine gate_dst (N := 1) rfl ?_); refine ev_bx HS ?_; clear HS; (try clear F); intro g1 w1 HS F) | ((with_reducible refine gate_dst (N := 7) rfl ?_); refine ev_cl HS (impl_NameOk.calls ht3.out (HS.keepc hgM)) Tryz.func62 ?_; clear HS; (try clear F); intro wt3 HS F) | ((with_reducible refine gate_dst (N := 12) rfl ?_); refine gate_guard (by rfl) ?_; refine ev_cl HS (impl_within.calls ht6.out) Tryz.func79 ?_; clear HS; (try clear F); intro wt6 HS F) | ((with_reducible refine gate_dst (N := 21) rfl ?_); refine gate_guard (by rfl) ?_; refine ev_cl HS (impl_within.calls ht9.out) Tryz.func79 ?_; clear HS; (try clear F); intro wt9 HS F))
  go_ret
  exact HS.pk
 replace H := zpos c11 H
 subst c11
 replace H := zbind H; obtain ⟨t12, ht12, H⟩ := H
 by_cases c14 : t12 = true
 case neg =>
  replace H := zneg c14 H
  replace c14 := eq_false_of_ne_true c14
  subst c14
  obtain rfl := zsome H
  go_wp2_with (first | ((with_reducible refine gate_dst (N := 1) rfl ?_); refine ev_bx HS ?_; clear HS; (try clear F); intro g1 w1 HS F) | ((with_reducible refine gate_dst (N := 7) rfl ?_); refine ev_cl HS (impl_NameOk.calls ht3.out (HS.keepc hgM)) Tryz.func62 ?_; clear HS; (try clear F); intro wt3 HS F) | ((with_reducible refine gate_dst (N := 12) rfl ?_); refine gate_guard (by rfl) ?_; refine ev_cl HS (impl_within.calls ht6.out) Tryz.func79 ?_; clear HS; (try clear F); intro wt6 HS F) | ((with_reducible refine gate_dst (N := 21) rfl ?_); refine gate_guard (by rfl) ?_; refine ev_cl HS (impl_within.calls ht9.out) Tryz.func79 ?_; clear HS; (try clear F); intro wt9 HS F) | ((with_reducible refine gate_dst (N := 27) rfl ?_); refine gate_guard (by rfl) ?_; refine ev_cl HS (impl_timeOk.calls ht12.out) Tryz.func80 ?_; clear HS; (try clear F); intro wt12 HS F))
  go_ret
  exact HS.pk
 replace H := zpos c14 H
 subst c14
 replace H := zbind H; obtain ⟨t15, ht15, H⟩ := H
 by_cases c17 : t15 = true
 case neg =>
  replace H := zneg c17 H
  replace c17 := eq_false_of_ne_true c17
  subst c17
  obtain rfl := zsome H
  go_wp2_with (first | ((with_reducible refine gate_dst (N := 1) rfl ?_); refine ev_bx HS ?_; clear HS; (try clear F); intro g1 w1 HS F) | ((with_reducible refine gate_dst (N := 7) rfl ?_); refine ev_cl HS (impl_NameOk.calls ht3.out (HS.keepc hgM)) Tryz.func62 ?_; clear HS; (try clear F); intro wt3 HS F) | ((with_reducible refine gate_dst (N := 12) rfl ?_); refine gate_guard (by rfl) ?_; refine ev_cl HS (impl_within.calls ht6.out) Tryz.func79 ?_; clear HS; (try clear F); intro wt6 HS F) | ((with_reducible refine gate_dst (N := 21) rfl ?_); refine gate_guard (by rfl) ?_; refine ev_cl HS (impl_within.calls ht9.out) Tryz.func79 ?_; clear HS; (try clear F); intro wt9 HS F) | ((with_reducible refine gate_dst (N := 27) rfl ?_); refine gate_guard (by rfl) ?_; refine ev_cl HS (impl_timeOk.calls ht12.out) Tryz.func80 ?_; clear HS; (try clear F); intro wt12 HS F) | ((with_reducible refine gate_dst (N := 33) rfl ?_); refine gate_guard (by rfl) ?_; refine ev_cl HS (impl_timeOk.calls ht15.out) Tryz.func80 ?_; clear HS; (try clear F); intro wt15 HS F))
  go_ret
  exact HS.pk
 replace H := zpos c17 H
 subst c17
 by_cases c18 : 8 < (a0.f5.length : Int)
 case pos =>
  replace H := zpos c18 H
  replace c18 := eq_true c18
  obtain rfl := zsome H
  go_wp2_with (first | ((with_reducible refine gate_dst (N := 1) rfl ?_); refine ev_bx HS ?_; clear HS; (try clear F); intro g1 w1 HS F) | ((with_reducible refine gate_dst (N := 7) rfl ?_); refine ev_cl HS (impl_NameOk.calls ht3.out (HS.keepc hgM)) Tryz.func62 ?_; clear HS; (try clear F); intro wt3 HS F) | ((with_reducible refine gate_dst (N := 12) rfl ?_); refine gate_guard (by rfl) ?_; refine ev_cl HS (impl_within.calls ht6.out) Tryz.func79 ?_; clear HS; (try clear F); intro wt6 HS F) | ((with_reducible refine gate_dst (N := 21) rfl ?_); refine gate_guard (by rfl) ?_; refine ev_cl HS (impl_within.calls ht9.out) Tryz.func79 ?_; clear HS; (try clear F); intro wt9 HS F) | ((with_reducible refine gate_dst (N := 27) rfl ?_); refine gate_guard (by rfl) ?_; refine ev_cl HS (impl_timeOk.calls ht12.out) Tryz.func80 ?_; clear HS; (try clear F); intro wt12 HS F) | ((with_reducible refine gate_dst (N := 33) rfl ?_); refine gate_guard (by rfl) ?_; refine ev_cl HS (impl_timeOk.calls ht15.out) Tryz.func80 ?_; clear HS; (try clear F); intro wt15 HS F))
  go_ret
  exact HS.pk
 replace H := zneg c18 H
 replace c18 := eq_false c18
 go_upto_if 47 with (first | ((with_reducible refine gate_dst (N := 1) rfl ?_); refine ev_bx HS ?_; clear HS; (try clear F); intro g1 w1 HS F) | ((with_reducible refine gate_dst (N := 7) rfl ?_); refine ev_cl HS (impl_NameOk.calls ht3.out (HS.keepc hgM)) Tryz.func62 ?_; clear HS; (try clear F); intro wt3 HS F) | ((with_reducible refine gate_dst (N := 12) rfl ?_); refine gate_guard (by rfl) ?_; refine ev_cl HS (impl_within.calls ht6.out) Tryz.func79 ?_; clear HS; (try clear F); intro wt6 HS F) | ((with_reducible refine gate_dst (N := 21) rfl ?_); refine gate_guard (by rfl) ?_; refine ev_cl HS (impl_within.calls ht9.out) Tryz.func79 ?_; clear HS; (try clear F); intro wt9 HS F) | ((with_reducible refine gate_dst (N := 27) rfl ?_); refine gate_guard (by rfl) ?_; refine ev_cl HS (impl_timeOk.calls ht12.out) Tryz.func80 ?_; clear HS; (try clear F); intro wt12 HS F) | ((with_reducible refine gate_dst (N := 33) rfl ?_); refine gate_guard (by rfl) ?_; refine ev_cl HS (impl_timeOk.calls ht15.out) Tryz.func80 ?_; clear HS; (try clear F); intro wt15 HS F))
 by_cases c19 : (a0.f6.size : Int) = 15
 case neg =>
  replace H := zneg c19 H
  have c19a := beq_eq_false_iff_ne.mpr c19
  have c19b := bne_iff_ne.mpr c19
  clear c19
  (try simp only [c19a, c19b, dcn])
  obtain rfl := zsome H
  go_wp2
  go_ret
  exact HS.pk
 replace H := zpos c19 H
 have c19a := beq_iff_eq.mpr c19
 have c19b := bne_eq_false_iff_eq.mpr c19
 clear c19
 (try simp only [c19a, c19b, dcn])
 go_wp2
 go_loopg [51] k (fun kq v_51 w' => ∃ (x23 : Int), v_51 = .int .i64 x23 ∧ Aside0 (impl_CrlOk.l0 kq x23 a0 = some r) ∧ Aside0 (kq ≤ k) ∧ Hp noFP w w' [.box g1 [.string a0.f0, .int .i64 a0.f1, .int .i64 a0.f2, .int .i64 a0.f3, .int .i64 a0.f4, .slice Ap0 a0.f5.length cp0, .string a0.f6] 81])
 case atStart => exact ⟨_, rfl, H, ⟨Nat.le_refl _⟩, HS⟩
 case round =>
  clear HS H; (try clear F)
  obtain ⟨x23, rfl, H, HKk22, HS⟩ := hrel
  have F := HS.boxes; simp only [bxn] at F
  cases gk with
  | zero => exact absurd H.out (by simp [impl_CrlOk.l0])
  | succ k22 =>
   simp only [impl_CrlOk.l0] at H
   by_cases c25 : x23 < (a0.f5.length : Int)
   case neg =>
    replace H := zneg c25 H
    replace c25 := eq_false c25
    obtain rfl := zsome H
    go_wp2
    go_ret
    exact HS.pk
   replace H := zpos c25 H
   replace c25 := eq_true c25
   obtain ⟨c26, H⟩ := zgo H
   obtain ⟨c27, H⟩ := zgo H
   obtain ⟨ad28, rfl, e28_0, e28_1⟩ := at_T238 gp0 x23 (of_eq_true c26) (of_eq_true c27)
   have e28_0_28 := (HS.keepc e28_0)
   have e28_1_28 := (HS.keepc e28_1)
   go_wp2_with (first | ((with_reducible refine gate_dst (N := 4) rfl ?_); refine ev_bx HS ?_; clear HS; (try clear F); intro g4 w4 HS F) | ((with_reducible refine gate_store (p := 4) rfl ?_); refine ev_st 1 0 HS (seg := [.int .i64 ((rd_T238 a0.f5 x23).f0), .int .i64 ((rd_T238 a0.f5 x23).f1)]) ?_; clear HS; (try clear F); intro w31 HS F))
   replace H := zbind H; obtain ⟨t102001, ht102001, H⟩ := H
   by_cases c104001 : t102001 = true
   case neg =>
    replace H := zneg c104001 H
    replace c104001 := eq_false_of_ne_true c104001
    subst c104001
    refine dr_start [] HS #[false, false, false, false, false, false, false, false, false, false, false, false, false, false, false, false, false, false, false, false, false, false, false, false, false, false, false, false, false, false, false, false, false, false, false, false] (by kernel_rfl) rfl rfl impl_CrlOk.tT6 (fun w48 HT HS HH => ?_)
    (try clear F)
    refine drq_of [(0, some 56), (1, some 57)] ?_
    repeat (first | refine drp HT ?_ | refine drt HT HH ?_)
    refine drq_end ?_
    refine dr1 2 HT fun K hK => ?_
    refine go_cl HS (impl_timeOk.calls ht102001.out) Tryz.func80 ?_; clear HS; (try clear F); intro wt102001 HS F
    refine nrm 58 hK ⟨_, HS⟩ (fun HH => ?_); clear hK K
    refine drq_of [(3, some 59), (4, some 60), (5, some 61), (6, some 62), (7, some 63), (8, some 64), (9, some 65), (10, some 66), (11, some 67), (12, some 68), (13, some 69), (14, some 70), (15, some 71), (16, some 72), (17, some 73), (18, some 74), (19, some 75), (20, some 76), (21, some 77), (22, some 78), (23, some 79), (24, some 80), (25, some 81), (26, some 82), (27, some 83), (28, some 84), (29, some 85), (30, some 86), (31, some 87), (32, some 88), (33, some 89), (34, some 90), (35, some 91)] ?_
    repeat (first | (refine drq_pure HT (v := ?_) (a' := ?_) rfl rfl (by kernel_rfl) (fun _ _ _ h => h) (.inl ⟨by rfl, ?_⟩) ?_ ?_; rotate_left; (intro w'; go_simp; with_reducible rfl); rotate_left; (simp only [Act.put, ptn]; rfl)) | (refine drq_pure HT (v := undef) (a' := ?_) rfl rfl (by kernel_rfl) (fun _ _ _ h => h) (.inr ⟨by rfl, rfl⟩) ?_ ?_; rotate_left; (simp only [Act.put, ptn]; rfl)))
    refine drq_end ?_
    refine done_ (done_of HT.out (by kernel_rfl)) ?_
    (try clear F)
    have F := HS.boxes; simp only [bxn] at F
    obtain rfl := zsome H
    go_wp2
    go_ret
    exact HS.pk
   replace H := zpos c104001 H
   subst c104001
   replace H := zbind H; obtain ⟨t107001, ht107001, H⟩ := H
   by_cases c110001 : t107001 = true
   case neg =>
    replace H := zneg c110001 H
    replace c110001 := eq_false_of_ne_true c110001
    subst c110001
    refine dr_start [] HS #[false, false, false, false, false, false, false, false, false, false, false, false, false, false, false, false, false, false, false, false, false, false, false, false, false, false, false, false, false, false, false, false, false, false, false, false] (by kernel_rfl) rfl rfl impl_CrlOk.tT6 (fun w46 HT HS HH => ?_)
    (try clear F)
    refine drq_of [(0, some 56), (1, some 57)] ?_
    repeat (first | refine drp HT ?_ | refine drt HT HH ?_)
    refine drq_end ?_
    refine dr1 2 HT fun K hK => ?_
    refine go_cl HS (impl_timeOk.calls ht102001.out) Tryz.func80 ?_; clear HS; (try clear F); intro wt102001 HS F
    refine nrm 58 hK ⟨_, HS⟩ (fun HH => ?_); clear hK K
    refine drq_of [(3, some 59), (4, some 60), (5, some 61), (6, some 62)] ?_
    repeat (first | refine drp HT ?_ | refine drt HT HH ?_)
    refine drq_end ?_
    refine dr1 7 HT fun K hK => ?_
    refine go_cl HS (impl_within.calls ht107001.out) Tryz.func79 ?_; clear HS; (try clear F); intro wt107001 HS F
    refine nrm 63 hK ⟨_, HS⟩ (fun HH => ?_); clear hK K
    refine drq_of [(8, some 64), (9, some 65), (10, some 66), (11, some 67), (12, some 68), (13, some 69), (14, some 70), (15, some 71), (16, some 72), (17, some 73), (18, some 74), (19, some 75), (20, some 76), (21, some 77), (22, some 78), (23, some 79), (24, some 80), (25, some 81), (26, some 82), (27, some 83), (28, some 84), (29, some 85), (30, some 86), (31, some 87), (32, some 88), (33, some 89), (34, some 90), (35, some 91)] ?_
    repeat (first | (refine drq_pure HT (v := ?_) (a' := ?_) rfl rfl (by kernel_rfl) (fun _ _ _ h => h) (.inl ⟨by rfl, ?_⟩) ?_ ?_; rotate_left; (intro w'; go_simp; with_reducible rfl); rotate_left; (simp only [Act.put, ptn]; rfl)) | (refine drq_pure HT (v := undef) (a' := ?_) rfl rfl (by kernel_rfl) (fun _ _ _ h => h) (.inr ⟨by rfl, rfl⟩) ?_ ?_; rotate_left; (simp only [Act.put, ptn]; rfl)))
    refine drq_end ?_
    refine done_ (done_of HT.out (by kernel_rfl)) ?_
    (try clear F)
    have F := HS.boxes; simp only [bxn] at F
    obtain rfl := zsome H
    go_wp2
    go_ret
    exact HS.pk
   replace H := zpos c110001 H
   subst c110001
   by_cases c114001 : (rd_T238 a0.f5 x23).f1 = 8
   case neg =>
    replace H := zneg c114001 H
    have c114001a := beq_eq_false_iff_ne.mpr c114001
    have c114001b := bne_iff_ne.mpr c114001
    clear c114001
    by_cases c123001 : 0 < x23
    case neg =>
     replace H := zneg c123001 H
     replace c123001 := eq_false c123001
     refine dr_start [] HS #[false, false, false, false, false, false, false, false, false, false, false, false, false, false, false, false, false, false, false, false, false, false, false, false, false, false, false, false, false, false, false, false, false, false, false, false] (by kernel_rfl) rfl rfl impl_CrlOk.tT6 (fun w44 HT HS HH => ?_)
     (try clear F)
     refine drq_of [(0, some 56), (1, some 57)] ?_
     repeat (first | refine drp HT ?_ | refine drt HT HH ?_)
     refine drq_end ?_
     refine dr1 2 HT fun K hK => ?_
     refine go_cl HS (impl_timeOk.calls ht102001.out) Tryz.func80 ?_; clear HS; (try clear F); intro wt102001 HS F
     refine nrm 58 hK ⟨_, HS⟩ (fun HH => ?_); clear hK K
     refine drq_of [(3, some 59), (4, some 60), (5, some 61), (6, some 62)] ?_
     repeat (first | refine drp HT ?_ | refine drt HT HH ?_)
     refine drq_end ?_
     refine dr1 7 HT fun K hK => ?_
     refine go_cl HS (impl_within.calls ht107001.out) Tryz.func79 ?_; clear HS; (try clear F); intro wt107001 HS F
     refine nrm 63 hK ⟨_, HS⟩ (fun HH => ?_); clear hK K
     refine drq_of [(8, some 64), (9, some 65), (10, some 66), (11, some 67), (12, some 68), (13, some 69), (14, some 70), (15, some 71), (16, some 72), (17, some 73), (18, some 74), (19, some 75), (20, some 76), (21, some 77), (22, some 78), (23, some 79), (24, some 80), (25, some 81), (26, some 82), (27, some 83), (28, some 84), (29, some 85), (30, some 86), (31, some 87), (32, some 88), (33, some 89), (34, some 90), (35, some 91)] ?_
     repeat (first | (refine drq_pure HT (v := ?_) (a' := ?_) rfl rfl (by kernel_rfl) (fun _ _ _ h => h) (.inl ⟨by rfl, ?_⟩) ?_ ?_; rotate_left; (intro w'; go_simp; with_reducible rfl); rotate_left; (simp only [Act.put, ptn]; rfl)) | (refine drq_pure HT (v := undef) (a' := ?_) rfl rfl (by kernel_rfl) (fun _ _ _ h => h) (.inr ⟨by rfl, rfl⟩) ?_ ?_; rotate_left; (simp only [Act.put, ptn]; rfl)) | (refine drq_take HT HH (v := ?_) (a' := ?_) rfl rfl (by kernel_rfl) (fun _ _ _ h => h) (.inl ⟨by rfl, ?_⟩) ?_ ?_; rotate_left; (rintro w' ⟨rs', HS'⟩; have F := HS'.boxes; simp only [bxn, List.cons_append, List.nil_append] at F; go_simp; with_reducible rfl); rotate_left; (simp only [Act.put, ptn]; rfl)))
     refine drq_end ?_
     refine done_ (done_of HT.out (by kernel_rfl)) ?_
     (try clear F)
     have F := HS.boxes; simp only [bxn] at F
     go_wp2
     go_roundg k22
     case measure => have := HKk22.out; omega
     case rel => exact ⟨_, rfl, H, ⟨by have := HKk22.out; omega⟩, HS.pick [0] (by decide) (by rfl)⟩
    replace H := zpos c123001 H
    replace c123001 := eq_true c123001
    obtain ⟨c128001, H⟩ := zgo H
    obtain ⟨c128002, H⟩ := zgo H
    obtain ⟨ad128999, hq128999, e128999_0, e128999_1⟩ := at_T238 gp0 (wrap64 (x23 - 1)) (of_eq_true c128001) (of_eq_true c128002); obtain rfl := Option.some.inj hq128999
    refine dr_start [] HS #[false, false, false, false, false, false, false, false, false, false, false, false, false, false, false, false, false, false, false, false, false, false, false, false, false, false, false, false, false, false, false, false, false, false, false, false] (by kernel_rfl) rfl rfl impl_CrlOk.tT6 (fun w41 HT HS HH => ?_)
    (try clear F)
    refine drq_of [(0, some 56), (1, some 57)] ?_
    repeat (first | refine drp HT ?_ | refine drt HT HH ?_)
    refine drq_end ?_
    refine dr1 2 HT fun K hK => ?_
    refine go_cl HS (impl_timeOk.calls ht102001.out) Tryz.func80 ?_; clear HS; (try clear F); intro wt102001 HS F
    refine nrm 58 hK ⟨_, HS⟩ (fun HH => ?_); clear hK K
    refine drq_of [(3, some 59), (4, some 60), (5, some 61), (6, some 62)] ?_
    repeat (first | refine drp HT ?_ | refine drt HT HH ?_)
    refine drq_end ?_
    refine dr1 7 HT fun K hK => ?_
    refine go_cl HS (impl_within.calls ht107001.out) Tryz.func79 ?_; clear HS; (try clear F); intro wt107001 HS F
    refine nrm 63 hK ⟨_, HS⟩ (fun HH => ?_); clear hK K
    refine drq_of [(8, some 64), (9, some 65), (10, some 66), (11, some 67), (12, some 68), (13, some 69), (14, some 70), (15, some 71), (16, some 72), (17, some 73), (18, some 74), (19, some 75), (20, some 76), (21, some 77), (22, some 78), (23, some 79), (24, some 80), (25, some 81), (26, some 82), (27, some 83), (28, some 84), (29, some 85)] ?_
    repeat (first | (refine drq_pure HT (v := ?_) (a' := ?_) rfl rfl (by kernel_rfl) (fun _ _ _ h => h) (.inl ⟨by rfl, ?_⟩) ?_ ?_; rotate_left; (intro w'; go_simp; with_reducible rfl); rotate_left; (simp only [Act.put, ptn]; rfl)) | (refine drq_pure HT (v := undef) (a' := ?_) rfl rfl (by kernel_rfl) (fun _ _ _ h => h) (.inr ⟨by rfl, rfl⟩) ?_ ?_; rotate_left; (simp only [Act.put, ptn]; rfl)) | (refine drq_take HT HH (v := ?_) (a' := ?_) rfl rfl (by kernel_rfl) (fun _ _ _ h => h) (.inl ⟨by rfl, ?_⟩) ?_ ?_; rotate_left; (rintro w' ⟨rs', HS'⟩; have F := HS'.boxes; simp only [bxn, List.cons_append, List.nil_append] at F; go_simp; with_reducible rfl); rotate_left; (simp only [Act.put, ptn]; rfl)))
    refine drq_end ?_
    refine dr_take 30 (some 86) HT HH (v := ?_) (a' := ?_) rfl rfl (by kernel_rfl) (fun _ _ _ h => h) (.inl ⟨by rfl, ?_⟩) ?_ ?_
    rotate_left
    · rintro w' ⟨rs', HS'⟩; have e128999_0 := (HS'.keepc e128999_0); have e128999_1 := (HS'.keepc e128999_1); go_simp; with_reducible rfl
    rotate_left
    · simp only [Act.put, ptn]; rfl
    refine drq_of [(31, some 87), (32, some 88), (33, some 89), (34, some 90), (35, some 91)] ?_
    repeat (first | refine drp HT ?_ | refine drt HT HH ?_)
    refine drq_end ?_
    refine done_ (done_of HT.out (by kernel_rfl)) ?_
    (try clear F)
    have F := HS.boxes; simp only [bxn] at F
    by_cases c43 : (rd_T238 a0.f5 x23).f0 ≤ (rd_T238 a0.f5 (wrap64 (x23 - 1))).f0
    case pos =>
     replace H := zpos c43 H
     replace c43 := eq_true c43
     (try simp only [c43, dcn])
     obtain rfl := zsome H
     go_wp2
     go_ret
     exact HS.pk
    replace H := zneg c43 H
    replace c43 := eq_false c43
    (try simp only [c43, dcn])
    go_wp2
    go_roundg k22
    case measure => have := HKk22.out; omega
    case rel => exact ⟨_, rfl, H, ⟨by have := HKk22.out; omega⟩, HS.pick [0] (by decide) (by rfl)⟩
   replace H := zpos c114001 H
   have c114001a := beq_iff_eq.mpr c114001
   have c114001b := bne_eq_false_iff_eq.mpr c114001
   clear c114001
   by_cases c120001 : a0.f4 = 0
   case pos =>
    replace H := zpos c120001 H
    have c120001a := beq_iff_eq.mpr c120001
    have c120001b := bne_eq_false_iff_eq.mpr c120001
    clear c120001
    refine dr_start [] HS #[false, false, false, false, false, false, false, false, false, false, false, false, false, false, false, false, false, false, false, false, false, false, false, false, false, false, false, false, false, false, false, false, false, false, false, false] (by kernel_rfl) rfl rfl impl_CrlOk.tT6 (fun w34 HT HS HH => ?_)
    (try clear F)
    refine drq_of [(0, some 56), (1, some 57)] ?_
    repeat (first | refine drp HT ?_ | refine drt HT HH ?_)
    refine drq_end ?_
    refine dr1 2 HT fun K hK => ?_
    refine go_cl HS (impl_timeOk.calls ht102001.out) Tryz.func80 ?_; clear HS; (try clear F); intro wt102001 HS F
    refine nrm 58 hK ⟨_, HS⟩ (fun HH => ?_); clear hK K
    refine drq_of [(3, some 59), (4, some 60), (5, some 61), (6, some 62)] ?_
    repeat (first | refine drp HT ?_ | refine drt HT HH ?_)
    refine drq_end ?_
    refine dr1 7 HT fun K hK => ?_
    refine go_cl HS (impl_within.calls ht107001.out) Tryz.func79 ?_; clear HS; (try clear F); intro wt107001 HS F
    refine nrm 63 hK ⟨_, HS⟩ (fun HH => ?_); clear hK K
    refine drq_of [(8, some 64), (9, some 65), (10, some 66), (11, some 67), (12, some 68), (13, some 69), (14, some 70), (15, some 71), (16, some 72), (17, some 73), (18, some 74), (19, some 75), (20, some 76), (21, some 77), (22, some 78), (23, some 79), (24, some 80), (25, some 81), (26, some 82), (27, some 83), (28, some 84), (29, some 85), (30, some 86), (31, some 87), (32, some 88), (33, some 89), (34, some 90), (35, some 91)] ?_
    repeat (first | (refine drq_pure HT (v := ?_) (a' := ?_) rfl rfl (by kernel_rfl) (fun _ _ _ h => h) (.inl ⟨by rfl, ?_⟩) ?_ ?_; rotate_left; (intro w'; go_simp; with_reducible rfl); rotate_left; (simp only [Act.put, ptn]; rfl)) | (refine drq_pure HT (v := undef) (a' := ?_) rfl rfl (by kernel_rfl) (fun _ _ _ h => h) (.inr ⟨by rfl, rfl⟩) ?_ ?_; rotate_left; (simp only [Act.put, ptn]; rfl)) | (refine drq_take HT HH (v := ?_) (a' := ?_) rfl rfl (by kernel_rfl) (fun _ _ _ h => h) (.inl ⟨by rfl, ?_⟩) ?_ ?_; rotate_left; (rintro w' ⟨rs', HS'⟩; have F := HS'.boxes; simp only [bxn, List.cons_append, List.nil_append] at F; go_simp; with_reducible rfl); rotate_left; (simp only [Act.put, ptn]; rfl)))
    refine drq_end ?_
    refine done_ (done_of HT.out (by kernel_rfl)) ?_
    (try clear F)
    have F := HS.boxes; simp only [bxn] at F
    obtain rfl := zsome H
    go_wp2
    go_ret
    exact HS.pk
   replace H := zneg c120001 H
   have c120001a := beq_eq_false_iff_ne.mpr c120001
   have c120001b := bne_iff_ne.mpr c120001
   clear c120001
   by_cases c123001 : 0 < x23
   case neg =>
    replace H := zneg c123001 H
    replace c123001 := eq_false c123001
    refine dr_start [] HS #[false, false, false, false, false, false, false, false, false, false, false, false, false, false, false, false, false, false, false, false, false, false, false, false, false, false, false, false, false, false, false, false, false, false, false, false] (by kernel_rfl) rfl rfl impl_CrlOk.tT6 (fun w39 HT HS HH => ?_)
    (try clear F)
    refine drq_of [(0, some 56), (1, some 57)] ?_
    repeat (first | refine drp HT ?_ | refine drt HT HH ?_)
    refine drq_end ?_
    refine dr1 2 HT fun K hK => ?_
    refine go_cl HS (impl_timeOk.calls ht102001.out) Tryz.func80 ?_; clear HS; (try clear F); intro wt102001 HS F
    refine nrm 58 hK ⟨_, HS⟩ (fun HH => ?_); clear hK K
    refine drq_of [(3, some 59), (4, some 60), (5, some 61), (6, some 62)] ?_
    repeat (first | refine drp HT ?_ | refine drt HT HH ?_)
    refine drq_end ?_
    refine dr1 7 HT fun K hK => ?_
    refine go_cl HS (impl_within.calls ht107001.out) Tryz.func79 ?_; clear HS; (try clear F); intro wt107001 HS F
    refine nrm 63 hK ⟨_, HS⟩ (fun HH => ?_); clear hK K
    refine drq_of [(8, some 64), (9, some 65), (10, some 66), (11, some 67), (12, some 68), (13, some 69), (14, some 70), (15, some 71), (16, some 72), (17, some 73), (18, some 74), (19, some 75), (20, some 76), (21, some 77), (22, some 78), (23, some 79), (24, some 80), (25, some 81), (26, some 82), (27, some 83), (28, some 84), (29, some 85), (30, some 86), (31, some 87), (32, some 88), (33, some 89), (34, some 90), (35, some 91)] ?_
    repeat (first | (refine drq_pure HT (v := ?_) (a' := ?_) rfl rfl (by kernel_rfl) (fun _ _ _ h => h) (.inl ⟨by rfl, ?_⟩) ?_ ?_; rotate_left; (intro w'; go_simp; with_reducible rfl); rotate_left; (simp only [Act.put, ptn]; rfl)) | (refine drq_pure HT (v := undef) (a' := ?_) rfl rfl (by kernel_rfl) (fun _ _ _ h => h) (.inr ⟨by rfl, rfl⟩) ?_ ?_; rotate_left; (simp only [Act.put, ptn]; rfl)) | (refine drq_take HT HH (v := ?_) (a' := ?_) rfl rfl (by kernel_rfl) (fun _ _ _ h => h) (.inl ⟨by rfl, ?_⟩) ?_ ?_; rotate_left; (rintro w' ⟨rs', HS'⟩; have F := HS'.boxes; simp only [bxn, List.cons_append, List.nil_append] at F; go_simp; with_reducible rfl); rotate_left; (simp only [Act.put, ptn]; rfl)))
    refine drq_end ?_
    refine done_ (done_of HT.out (by kernel_rfl)) ?_
    (try clear F)
    have F := HS.boxes; simp only [bxn] at F
    go_wp2
    go_roundg k22
    case measure => have := HKk22.out; omega
    case rel => exact ⟨_, rfl, H, ⟨by have := HKk22.out; omega⟩, HS.pick [0] (by decide) (by rfl)⟩
   replace H := zpos c123001 H
   replace c123001 := eq_true c123001
   obtain ⟨c128001, H⟩ := zgo H
   obtain ⟨c128002, H⟩ := zgo H
   obtain ⟨ad128999, hq128999, e128999_0, e128999_1⟩ := at_T238 gp0 (wrap64 (x23 - 1)) (of_eq_true c128001) (of_eq_true c128002); obtain rfl := Option.some.inj hq128999
   refine dr_start [] HS #[false, false, false, false, false, false, false, false, false, false, false, false, false, false, false, false, false, false, false, false, false, false, false, false, false, false, false, false, false, false, false, false, false, false, false, false] (by kernel_rfl) rfl rfl impl_CrlOk.tT6 (fun w36 HT HS HH => ?_)
   (try clear F)
   refine drq_of [(0, some 56), (1, some 57)] ?_
   repeat (first | refine drp HT ?_ | refine drt HT HH ?_)
   refine drq_end ?_
   refine dr1 2 HT fun K hK => ?_
   refine go_cl HS (impl_timeOk.calls ht102001.out) Tryz.func80 ?_; clear HS; (try clear F); intro wt102001 HS F
   refine nrm 58 hK ⟨_, HS⟩ (fun HH => ?_); clear hK K
   refine drq_of [(3, some 59), (4, some 60), (5, some 61), (6, some 62)] ?_
   repeat (first | refine drp HT ?_ | refine drt HT HH ?_)
   refine drq_end ?_
   refine dr1 7 HT fun K hK => ?_
   refine go_cl HS (impl_within.calls ht107001.out) Tryz.func79 ?_; clear HS; (try clear F); intro wt107001 HS F
   refine nrm 63 hK ⟨_, HS⟩ (fun HH => ?_); clear hK K
   refine drq_of [(8, some 64), (9, some 65), (10, some 66), (11, some 67), (12, some 68), (13, some 69), (14, some 70), (15, some 71), (16, some 72), (17, some 73), (18, some 74), (19, some 75), (20, some 76), (21, some 77), (22, some 78), (23, some 79), (24, some 80), (25, some 81), (26, some 82), (27, some 83), (28, some 84), (29, some 85)] ?_
   repeat (first | refine drp HT ?_ | refine drt HT HH ?_)
   refine drq_end ?_
   refine dr_take 30 (some 86) HT HH (v := ?_) (a' := ?_) rfl rfl (by kernel_rfl) (fun _ _ _ h => h) (.inl ⟨by rfl, ?_⟩) ?_ ?_
   rotate_left
   · rintro w' ⟨rs', HS'⟩; have e128999_0 := (HS'.keepc e128999_0); have e128999_1 := (HS'.keepc e128999_1); go_simp; with_reducible rfl
   rotate_left
   · simp only [Act.put, ptn]; rfl
   refine drq_of [(31, some 87), (32, some 88), (33, some 89), (34, some 90), (35, some 91)] ?_
   repeat (first | refine drp HT ?_ | refine drt HT HH ?_)
   refine drq_end ?_
   refine done_ (done_of HT.out (by kernel_rfl)) ?_
   (try clear F)
   have F := HS.boxes; simp only [bxn] at F
   by_cases c38 : (rd_T238 a0.f5 x23).f0 ≤ (rd_T238 a0.f5 (wrap64 (x23 - 1))).f0
   case pos =>
    replace H := zpos c38 H
    replace c38 := eq_true c38
    (try simp only [c38, dcn])
    obtain rfl := zsome H
    go_wp2
    go_ret
    exact HS.pk
   replace H := zneg c38 H
   replace c38 := eq_false c38
   (try simp only [c38, dcn])
   go_wp2
   go_roundg k22
   case measure => have := HKk22.out; omega
   case rel => exact ⟨_, rfl, H, ⟨by have := HKk22.out; omega⟩, HS.pick [0] (by decide) (by rfl)⟩
/-! ### impl_crlItem_1: function 207 -/
def impl_crlItem_1.f (k : Nat) (a0 : S238) : Option (S182) := ((impl_IntItem.f k a0.f0).bind fun t102001 => ((impl_IntItem.f k a0.f1).bind fun t105001 => ((impl_ListItem.f k ([t102001, t105001] : List S182)).bind fun t107001 => (some (⟨t107001.f0, t107001.f1, t107001.f2⟩ : S182)))))
def impl_crlItem_1.T1 : Bool × List (List Nat × List Nat) := (true, [([], []), ([0], [0]), ([1], [1]), ([], []), ([3], [3]), ([4, 2], [4]), ([2, 5], [2, 5]), ([6, 5], [6]), ([7, 7, 0, 1, 2, 3, 4, 5, 6, 7], [7])])
theorem impl_crlItem_1.tT1 : rtab .any (opsOf Tryz.f207 1) = impl_crlItem_1.T1 := by kernel_rfl
set_option maxHeartbeats 16000000 in
theorem impl_crlItem_1.calls {k : Nat} {a0 : S238} {r : S182} {w : World} (h : impl_crlItem_1.f k a0 = some r) :
    Calls Tryz.prog 207 #[.agg #[.int .i64 a0.f0, .int .i64 a0.f1]] w (fun e w' => ∃ v0_ : Value, e = .returned (.agg #[.int .i64 r.f0, .string r.f1, v0_]) ∧ Hp noFP w w' [.own (Zd.slice 182 q182) r.f2 [v0_]]) := by
 have HS := Hp.start w
 have H := Aside0.mk h
 clear h
 unfold impl_crlItem_1.f at H
 go_enter Tryz.func207, Tryz.ntmps207
 go_wp2_with (first | ((with_reducible refine gate_dst (N := 1) rfl ?_); refine ev_bx HS ?_; clear HS; (try clear F); intro g1 w1 HS F) | ((with_reducible refine gate_dst (N := 2) rfl ?_); refine ev_bx HS ?_; clear HS; (try clear F); intro g2 w2 HS F))
 replace H := zbind H; obtain ⟨t102001, ht102001, H⟩ := H
 replace H := zbind H; obtain ⟨t105001, ht105001, H⟩ := H
 replace H := zbind H; obtain ⟨t107001, ht107001, H⟩ := H
 refine dr_start [8] HS #[false, false, false, false, false, false, false, false, false] (by kernel_rfl) rfl rfl impl_crlItem_1.tT1 (fun w6 HT HS HH => ?_)
 (try clear F)
 refine drq_of [(0, some 3), (1, some 4), (3, some 6), (4, some 7)] ?_
 repeat (first | refine drp HT ?_ | refine drt HT HH ?_)
 refine drq_end ?_
 refine dr1 2 HT fun K hK => ?_
 refine go_cl1 HS (impl_IntItem.calls ht102001.out) Tryz.func202 ?_; clear HS; (try clear F); intro v102002 wt102001 HS F; obtain ⟨B102002, d102002, rfl, m102002⟩ := HS.form 2 rfl
 refine nrm 5 hK ⟨_, HS⟩ (fun HH => ?_); clear hK K
 refine dr1 5 HT fun K hK => ?_
 refine go_cl1 HS (impl_IntItem.calls ht105001.out) Tryz.func202 ?_; clear HS; (try clear F); intro v105002 wt105001 HS F; obtain ⟨B105002, d105002, rfl, m105002⟩ := HS.form 3 rfl
 refine nrm 8 hK ⟨_, HS⟩ (fun HH => ?_); clear hK K
 refine dr1 6 HT fun K hK => ?_
 refine if_wp (by rfl) ?_; refine wp_lit q182 [2, 3] ([t102001, t105001] : List S182) ([.int .i64 t102001.f0, .string t102001.f1, .slice B102002 t102001.f2.length d102002] ++ ([.int .i64 t105001.f0, .string t105001.f1, .slice B105002 t105001.f2.length d105002] ++ [])) HS (by first | (go_simp; done) | (go_simp; rfl)) rfl rfl (Nat.le_of_ble_eq_true rfl) (MadeL.cons (js1 := [2]) (c := [.int .i64 t102001.f0, .string t102001.f1, .slice B102002 t102001.f2.length d102002]) rfl (fun S hd hh => q182_pack (x := t102001) hd (hh 2 (.own (Zd.slice 182 q182) t102001.f2 [.slice B102002 t102001.f2.length d102002]) rfl) (by decide)) (MadeL.cons (js1 := [3]) (c := [.int .i64 t105001.f0, .string t105001.f1, .slice B105002 t105001.f2.length d105002]) rfl (fun S hd hh => q182_pack (x := t105001) hd (hh 3 (.own (Zd.slice 182 q182) t105001.f2 [.slice B105002 t105001.f2.length d105002]) rfl) (by decide)) MadeL.nil (by decide)) (by decide)) ?_; clear HS; (try clear F); intro v106001 w106001 HS; obtain ⟨B106001, d106001, rfl, m106001⟩ := HS.formn 2 4 rfl rfl
 (try simp only [hpn, hpm] at HS)
 have F := HS.boxes; simp only [bxn] at F
 refine nrm 9 hK ⟨_, HS⟩ (fun HH => ?_); clear hK K
 refine dr1 7 HT fun K hK => ?_
 refine go_cl1 HS (impl_ListItem.calls ht107001.out (HS.rd 4 rfl) m106001) Tryz.func145 ?_; clear HS; (try clear F); intro v107002 wt107001 HS F; obtain ⟨B107002, d107002, rfl, m107002⟩ := HS.form 5 rfl
 refine nrm 10 hK ⟨_, HS⟩ (fun HH => ?_); clear hK K
 refine dr_last 8 HT rfl (by kernel_rfl) (by decide) (fun K hK => ?_)
 refine if_st 1 0 HS (seg := [.int .i64 t107001.f0, .string t107001.f1, .slice B107002 t107001.f2.length d107002]) ?_; clear HS; (try clear F); intro w108001 HS F
 refine hK.out _ _ ?_
 clear hK K
 refine done_ (done_of HT.out (by kernel_rfl)) ?_
 (try clear F)
 have F := HS.boxes; simp only [bxn] at F
 obtain rfl := zsome H
 go_wp2
 exact bodyPost_ret (results_single rfl (.cell _ _ _ _ _ rfl (HS.boxAt (i := 1) rfl) Tryz.underlying182 rfl (by kernel_rfl) .nil)) rfl ⟨_, rfl, HS.pick [5] (by decide) (by rfl)⟩
/-! ### impl_Rev_0: function 208 -/
def impl_Rev_0.l0 : Nat → (List S182) → Int → (List S238) → Option (S182)
  | 0, _, _, _ => none
  | k + 1, l26, x28, a0 => (if x28 < (a0.length : Int) then (if 0 ≤ x28 then (if x28 < (a0.length : Int) then ((impl_crlItem_1.f k (rd_T238 a0 x28)).bind fun t204001 => (if l26.length + 1 ≤ 2932031007402 then (lets (l26 ++ ([t204001] : List S182)) fun y206999 => (impl_Rev_0.l0 k y206999 (wrap64 (x28 + 1)) a0)) else none)) else none) else none) else (some (⟨48, (⟨#[]⟩ : ByteArray), l26⟩ : S182)))
def impl_Rev_0.f (k : Nat) (a0 : (List S238)) : Option (S182) := (impl_Rev_0.l0 k [] 0 a0)
def impl_Rev_0.T5 : Bool × List (List Nat × List Nat) := (true, [([], []), ([0], [0]), ([], []), ([], []), ([2, 3], [2, 3]), ([4], [4]), ([1, 5, 4], [1, 5]), ([0, 1, 2, 3, 4, 5, 6], []), ([7, 6, 6, 0, 1, 2, 3, 4, 5, 6], [6, 7])])
theorem impl_Rev_0.tT5 : rtab .any (opsOf Tryz.f208 5) = impl_Rev_0.T5 := by kernel_rfl
set_option maxHeartbeats 16000000 in
theorem impl_Rev_0.calls {k : Nat} {a0 : (List S238)} {Ap0 : Option Addr} {np0 cp0 : Nat} {r : S182} {w : World} (h : impl_Rev_0.f k a0 = some r) (gp0 : k238.C w Ap0 np0 a0) (lp0 : np0 ≤ cp0) :
    Calls Tryz.prog 208 #[.slice Ap0 np0 cp0, .func (.func 207) #[] #[]] w (fun e w' => ∃ v0_ : Value, e = .returned (.agg #[.int .i64 r.f0, .string r.f1, v0_]) ∧ Hp noFP w w' [.own (Zd.slice 182 q182) r.f2 [v0_]]) := by
 obtain rfl := C_len gp0
 have HS := Hp.start w
 have H := Aside0.mk h
 clear h
 unfold impl_Rev_0.f at H
 go_enter Tryz.func208, Tryz.ntmps208
 go_wp2_with (first | ((with_reducible refine gate_dst (N := 4) rfl ?_); refine ev_bx HS ?_; clear HS; (try clear F); intro g4 w4 HS F) | ((with_reducible refine gate_dst (N := 5) rfl ?_); refine ev_bx HS ?_; clear HS; (try clear F); intro g5 w5 HS F) | ((with_reducible refine gate_store (p := 5) rfl ?_); refine ev_st 1 0 HS (seg := [.int .i64 48, .string (⟨#[]⟩ : ByteArray), .slice none 0 0]) ?_; clear HS; (try clear F); intro w5 HS F))
 replace HS := HS.nil 182 q182
 go_loopg [11] k (fun kq v_11 w' => ∃ (l26 : List S182) (v27 : Value) (x28 : Int), v_11 = .int .i64 x28 ∧ Aside0 (impl_Rev_0.l0 kq l26 x28 a0 = some r) ∧ Aside0 (kq ≤ k) ∧ Hp noFP w w' [.box g4 [.int .i64 0, .string (⟨#[]⟩ : ByteArray), .slice none 0 0] 182, .box g5 [.int .i64 48, .string (⟨#[]⟩ : ByteArray), v27] 182, .own (Zd.slice 182 q182) l26 [v27]])
 case atStart => exact ⟨_, _, _, rfl, H, ⟨Nat.le_refl _⟩, HS⟩
 case round =>
  clear HS H; (try clear F)
  obtain ⟨l26, v27, x28, rfl, H, HKk25, HS⟩ := hrel
  obtain ⟨B27, d27, rfl, m27⟩ := HS.form 2 rfl
  have F := HS.boxes; simp only [bxn] at F
  cases gk with
  | zero => exact absurd H.out (by simp [impl_Rev_0.l0])
  | succ k25 =>
   simp only [impl_Rev_0.l0] at H
   by_cases c30 : x28 < (a0.length : Int)
   case neg =>
    replace H := zneg c30 H
    replace c30 := eq_false c30
    obtain rfl := zsome H
    go_wp2_with (first | ((with_reducible refine gate_store (p := 4) rfl ?_); refine ev_st 0 0 HS (seg := [.int .i64 48, .string (⟨#[]⟩ : ByteArray), .slice B27 l26.length d27]) ?_; clear HS; (try clear F); intro w41 HS F))
    exact bodyPost_ret (results_single rfl (.cell _ _ _ _ _ rfl (HS.boxAt (i := 0) rfl) Tryz.underlying182 rfl (by kernel_rfl) .nil)) rfl ⟨_, rfl, HS.pick [2] (by decide) (by rfl)⟩
   replace H := zpos c30 H
   replace c30 := eq_true c30
   obtain ⟨c31, H⟩ := zgo H
   obtain ⟨c32, H⟩ := zgo H
   obtain ⟨ad33, rfl, e33_0, e33_1⟩ := at_T238 gp0 x28 (of_eq_true c31) (of_eq_true c32)
   have e33_0_33 := (HS.keepc e33_0)
   have e33_1_33 := (HS.keepc e33_1)
   go_wp2_with (first | ((with_reducible refine gate_dst (N := 7) rfl ?_); refine ev_bx HS ?_; clear HS; (try clear F); intro g7 w7 HS F) | ((with_reducible refine gate_store (p := 7) rfl ?_); refine ev_st 3 0 HS (seg := [.int .i64 ((rd_T238 a0 x28).f0), .int .i64 ((rd_T238 a0 x28).f1)]) ?_; clear HS; (try clear F); intro w36 HS F))
   replace H := zbind H; obtain ⟨t204001, ht204001, H⟩ := H
   obtain ⟨c206001, H⟩ := zgo H
   replace H := zlets H; obtain ⟨y206999, e_y206999, H⟩ := H
   refine dr_start2 [.box g4 [.int .i64 0, .string (⟨#[]⟩ : ByteArray), .slice none 0 0] 182, .box g5 [.int .i64 48, .string (⟨#[]⟩ : ByteArray), .slice B27 l26.length d27] 182, .emp, .box g7 [.int .i64 ((rd_T238 a0 x28).f0), .int .i64 ((rd_T238 a0 x28).f1)] 238] [8] HS (HS.arr [some 0, some 1, none, some 3] (by decide)) #[false, false, false, false, false, false, false, false, false] (by kernel_rfl) rfl rfl impl_Rev_0.tT5 (fun w39 HT HS HH => ?_)
   (try clear F)
   refine drq_of [(0, some 15), (1, some 16), (2, some 17), (3, some 18)] ?_
   repeat (first | refine drp HT ?_ | refine drt HT HH ?_)
   refine drq_end ?_
   refine dr1 4 HT fun K hK => ?_
   refine if_wp (by rfl) ?_; refine wp_callv Tryz.func207 (by kernel_rfl) rfl #[.agg #[.int .i64 ((rd_T238 a0 x28).f0), .int .i64 ((rd_T238 a0 x28).f1)]] #[.agg #[.int .i64 ((rd_T238 a0 x28).f0), .int .i64 ((rd_T238 a0 x28).f1)]] rfl rfl (by simp only [mpn]; rfl) (by first | rfl | simp) ?_; refine (impl_crlItem_1.calls ht204001.out).mono ?_; rintro _ wt204001 ⟨v204002, rfl, HQ⟩; refine ⟨_, rfl, ?_⟩; replace HS := HS.call HQ; clear HQ; (try clear F); obtain ⟨B204002, d204002, rfl, m204002⟩ := HS.form 4 rfl
   (try simp only [hpn, hpm] at HS)
   have F := HS.boxes; simp only [bxn] at F
   refine hK.out _ _ ⟨[], HS.arr [some 0, some 1, none, some 3] (by decide)⟩ (fun HH => ?_)
   clear hK K
   refine norm_ (a' := ?_) ?_ ?_
   rotate_left
   · show Act.put _ (some 19) _ = _; simp only [Act.put, ptn]; rfl
   refine dr1 5 HT fun K hK => ?_
   refine if_wp (by rfl) ?_; refine wp_lit q182 [4] ([t204001] : List S182) ([.int .i64 t204001.f0, .string t204001.f1, .slice B204002 t204001.f2.length d204002] ++ []) HS (by first | (go_simp; done) | (go_simp; rfl)) rfl rfl (Nat.le_of_ble_eq_true rfl) (MadeL.cons (js1 := [4]) (c := [.int .i64 t204001.f0, .string t204001.f1, .slice B204002 t204001.f2.length d204002]) rfl (fun S hd hh => q182_pack (x := t204001) hd (hh 4 (.own (Zd.slice 182 q182) t204001.f2 [.slice B204002 t204001.f2.length d204002]) rfl) (by decide)) MadeL.nil (by decide)) ?_; clear HS; (try clear F); intro v205001 w205001 HS; obtain ⟨B205001, d205001, rfl, m205001⟩ := HS.formn 1 5 rfl rfl
   (try simp only [hpn, hpm] at HS)
   have F := HS.boxes; simp only [bxn] at F
   refine hK.out _ _ ⟨[], HS.arr [some 0, some 1, none, some 3] (by decide)⟩ (fun HH => ?_)
   clear hK K
   refine norm_ (a' := ?_) ?_ ?_
   rotate_left
   · show Act.put _ (some 20) _ = _; simp only [Act.put, ptn]; rfl
   refine dr1 6 HT fun K hK => ?_
   refine if_wp (by rfl) ?_; refine wp_append q182 2 5 HS rfl rfl (by decide) rfl rfl rfl Tryz.underlying180 info182 rfl (by decide) (by decide) (by have := of_eq_true c206001; first | omega | (simp only [List.length_cons, List.length_nil, List.length_append, Nat.zero_add] at this ⊢; omega)) ?_; clear HS; (try clear F); intro v206999 w206999 HS; rw [← e_y206999.out] at HS; obtain ⟨B206999, d206999, rfl, m206999⟩ := HS.form 6 rfl
   (try simp only [hpn, hpm] at HS)
   have F := HS.boxes; simp only [bxn] at F
   refine hK.out _ _ ⟨[], HS.arr [some 0, some 1, none, some 3] (by decide)⟩ (fun HH => ?_)
   clear hK K
   refine norm_ (a' := ?_) ?_ ?_
   rotate_left
   · show Act.put _ (some 21) _ = _; simp only [Act.put, ptn]; rfl
   refine drq_of [(7, some 22)] ?_
   repeat (refine drp HT ?_)
   refine drq_end ?_
   refine dr_last 8 HT rfl (by kernel_rfl) (by decide) (fun K hK => ?_)
   refine if_st 1 2 HS (seg := [.slice B206999 y206999.length d206999]) ?_; clear HS; (try clear F); intro w208001 HS F
   refine hK.out _ _ ?_
   clear hK K
   refine done_ (done_of HT.out (by kernel_rfl)) ?_
   (try clear F)
   have F := HS.boxes; simp only [bxn] at F
   go_wp2
   go_roundg k25
   case measure => have := HKk25.out; omega
   case rel => exact ⟨_, _, _, rfl, H, ⟨by have := HKk25.out; omega⟩, HS.pick [0, 1, 6] (by decide) (by rfl)⟩
end Go.Proofs.YtacocpknielofaaGreatDoor.F
