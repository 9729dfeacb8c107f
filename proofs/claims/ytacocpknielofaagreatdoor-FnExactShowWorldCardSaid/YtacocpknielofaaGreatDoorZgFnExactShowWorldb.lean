/- Functions of the program and of the law, and that their calls do what is written here. -/
import Derived.Test.YtacocpknielofaaGreatDoorZgFnExactShowWorlda
namespace Go.Proofs.YtacocpknielofaaGreatDoor.F
open Go.RowKit Go.Proofs.YtacocpknielofaaGreatDoorW.PrintWords Go.Proofs.YtacocpknielofaaGreatDoorW.PrintLast Go.Proofs.YtacocpknielofaaGreatDoorW.PrintMore Go.Proofs.YtacocpknielofaaGreatDoor.Z
attribute [local go_sem] max2_int min2_int max_two min_two max_three min_three max_four min_four
set_option linter.unusedVariables false
set_option linter.unusedSimpArgs false
set_option maxRecDepth 100000
/-! ### laws_szPose: function 162 -/
def laws_szPose.f (a0 : S217) (a1 : Int) : Option (Int) := (if (wrap64 (a1 - (a0.f1.size : Int))) < 0 then (some (-1)) else (some (wrap64 (a1 - (a0.f1.size : Int)))))
set_option maxHeartbeats 16000000 in
theorem laws_szPose.calls {a0 : S217} {a1 : Int} {r : Int} {w : World} (h : laws_szPose.f a0 a1 = some r) :
    Calls Tryz.prog 162 #[.agg #[.int .i64 a0.f0, .string a0.f1], .int .i64 a1] w (fun e w' => e = .returned (.int .i64 r) ∧ Hp noFP w w' []) := by
 have HS := Hp.start w
 have H := Aside0.mk h
 clear h
 unfold laws_szPose.f at H
 go_enter Tryz.func162, Tryz.ntmps162
 go_upto_if 11 with (first | ((with_reducible refine gd 2 rfl ?_); refine ev_bx HS ?_; clear HS; (try clear F); intro g2 w2 HS F))
 replace H := zif H; rcases H with ⟨c3, H⟩ | ⟨c3, H⟩
 case inl =>
  (try simp only [c3, dcn])
  obtain rfl := zsome H
  go_wp2
  go_ret
  exact HS.pk
 (try simp only [c3, dcn])
 obtain rfl := zsome H
 go_wp2
 go_ret
 exact HS.pk
/-! ### laws_szPoseS: function 86 -/
def laws_szPoseS.l0 : Nat → Int → Int → (List S217) → Option (Int)
  | 0, _, _, _ => none
  | k + 1, x12, x13, a0 => (if x13 < (a0.length : Int) then (if 0 ≤ x13 then (if x13 < (a0.length : Int) then ((laws_szPose.f (rd_T217 a0 x13) x12).bind fun t19 => (if t19 < 0 then (some (-1)) else (laws_szPoseS.l0 k t19 (wrap64 (x13 + 1)) a0))) else none) else none) else (some x12))
def laws_szPoseS.f (k : Nat) (a0 : (List S217)) (a1 : Int) : Option (Int) := (if (wrap64 (a1 - (a0.length : Int))) < 0 then (some (-1)) else (laws_szPoseS.l0 k (wrap64 (a1 - (a0.length : Int))) 0 a0))
set_option maxHeartbeats 16000000 in
theorem laws_szPoseS.calls {k : Nat} {a0 : (List S217)} {a1 : Int} {Ap0 : Option Addr} {np0 cp0 : Nat} {r : Int} {w : World} (h : laws_szPoseS.f k a0 a1 = some r) (gp0 : k217.C w Ap0 np0 a0) (lp0 : np0 ≤ cp0) :
    Calls Tryz.prog 86 #[.slice Ap0 np0 cp0, .int .i64 a1] w (fun e w' => e = .returned (.int .i64 r) ∧ Hp noFP w w' []) := by
 obtain rfl := C_len gp0
 have HS := Hp.start w
 have H := Aside0.mk h
 clear h
 unfold laws_szPoseS.f at H
 go_enter Tryz.func86, Tryz.ntmps86
 replace H := zif H; rcases H with ⟨c1, H⟩ | ⟨c1, H⟩
 case inl =>
  obtain rfl := zsome H
  go_wp2
  go_ret
  exact HS.pk
 go_wp2
 go_loopg [1, 5] k (fun kq v_1 v_5 w' => ∃ (x12 : Int) (x13 : Int), v_1 = .int .i64 x12 ∧ v_5 = .int .i64 x13 ∧ Aside0 (laws_szPoseS.l0 kq x12 x13 a0 = some r) ∧ Aside0 (kq ≤ k) ∧ Hp noFP w w' [])
 case atStart => exact ⟨_, _, rfl, rfl, H, ⟨Nat.le_refl _⟩, HS⟩
 case round =>
  clear HS H; (try clear F)
  obtain ⟨x12, x13, rfl, rfl, H, HKk11, HS⟩ := hrel
  cases gk with
  | zero => exact absurd H.out (by simp [laws_szPoseS.l0])
  | succ k11 =>
   simp only [laws_szPoseS.l0] at H
   replace H := znif H; rcases H with ⟨c15, H⟩ | ⟨c15, H⟩
   case inl =>
    obtain rfl := zsome H
    go_wp2
    go_ret
    exact HS.pk
   replace H := zgo H; obtain ⟨c16, H⟩ := H
   replace H := zgo H; obtain ⟨c17, H⟩ := H
   obtain ⟨ad18, rfl, e18_0, e18_1⟩ := at_T217 gp0 x13 (of_eq_true c16) (of_eq_true c17)
   have e18_0_18 := (HS.keepc e18_0)
   have e18_1_18 := (HS.keepc e18_1)
   replace H := zbind H; obtain ⟨t19, ht19, H⟩ := H
   go_upto_if 25 with (first | ((with_reducible refine gd 23 rfl ?_); refine ev_cl HS (laws_szPose.calls ht19.out) Tryz.func162 ?_; clear HS; (try clear F); intro wt19 HS F))
   replace H := zif H; rcases H with ⟨c21, H⟩ | ⟨c21, H⟩
   case inl =>
    (try simp only [c21, dcn])
    obtain rfl := zsome H
    go_wp2
    go_ret
    exact HS.pk
   (try simp only [c21, dcn])
   go_wp2
   go_roundg k11
   case measure => have := HKk11.out; omega
   case rel => exact ⟨_, _, rfl, rfl, H, ⟨by have := HKk11.out; omega⟩, HS.pick [] (by decide) (by rfl)⟩
/-! ### laws_szWorld: function 21 -/
def laws_szWorld.f (k : Nat) (a0 : S59) (a1 : Int) : Option (Int) := ((laws_szServer.f k a0.f0 a1).bind fun t3 => (if t3 < 0 then (some (-1)) else ((laws_szClient.f k a0.f1 t3).bind fun t6 => (if t6 < 0 then (some (-1)) else ((laws_szCertS.f k a0.f2 t6).bind fun t9 => (if t9 < 0 then (some (-1)) else ((laws_szLetterS.f k a0.f3 t9).bind fun t12 => (if t12 < 0 then (some (-1)) else ((laws_szIntS.f a0.f4 t12).bind fun t15 => (if t15 < 0 then (some (-1)) else ((laws_szPoseS.f k a0.f5 t15).bind fun t18 => (if t18 < 0 then (some (-1)) else ((laws_szStringS.f k a0.f6 t18).bind fun t21 => (if t21 < 0 then (some (-1)) else ((laws_szStringS.f k a0.f7 t21).bind fun t24 => (if t24 < 0 then (some (-1)) else (some t24)))))))))))))))))
set_option maxHeartbeats 16000000 in
theorem laws_szWorld.calls {k : Nat} {a0 : S59} {a1 : Int} {Ap0 : Option Addr} {np0 cp0 : Nat} {Ap1 : Option Addr} {np1 cp1 : Nat} {Ap2 : Option Addr} {np2 cp2 : Nat} {Ap3 : Option Addr} {np3 cp3 : Nat} {Ap4 : Option Addr} {np4 cp4 : Nat} {Ap5 : Option Addr} {np5 cp5 : Nat} {Ap6 : Option Addr} {np6 cp6 : Nat} {Ap7 : Option Addr} {np7 cp7 : Nat} {Ap8 : Option Addr} {np8 cp8 : Nat} {Ap9 : Option Addr} {np9 cp9 : Nat} {Ap10 : Option Addr} {np10 cp10 : Nat} {Ap11 : Option Addr} {np11 cp11 : Nat} {Ap12 : Option Addr} {np12 cp12 : Nat} {Ap13 : Option Addr} {np13 cp13 : Nat} {r : Int} {w : World} (h : laws_szWorld.f k a0 a1 = some r) (gp0 : k88.C w Ap0 np0 a0.f0.f0.f0) (lp0 : np0 ≤ cp0) (gp1 : k75.C w Ap1 np1 a0.f0.f0.f1) (lp1 : np1 ≤ cp1) (gp2 : k178.C w Ap2 np2 a0.f0.f0.f2) (lp2 : np2 ≤ cp2) (gp3 : k196.C w Ap3 np3 a0.f0.f1) (lp3 : np3 ≤ cp3) (gp4 : k199.C w Ap4 np4 a0.f0.f5) (lp4 : np4 ≤ cp4) (gp5 : k265.C w Ap5 np5 a0.f1.f2) (lp5 : np5 ≤ cp5) (gp6 : k271.C w Ap6 np6 a0.f1.f3) (lp6 : np6 ≤ cp6) (gp7 : (Kd.int .i64).C w Ap7 np7 a0.f1.f4) (lp7 : np7 ≤ cp7) (gp8 : k88.C w Ap8 np8 a0.f2) (lp8 : np8 ≤ cp8) (gp9 : k214.C w Ap9 np9 a0.f3) (lp9 : np9 ≤ cp9) (gp10 : (Kd.int .i64).C w Ap10 np10 a0.f4) (lp10 : np10 ≤ cp10) (gp11 : k217.C w Ap11 np11 a0.f5) (lp11 : np11 ≤ cp11) (gp12 : Kd.string.C w Ap12 np12 a0.f6) (lp12 : np12 ≤ cp12) (gp13 : Kd.string.C w Ap13 np13 a0.f7) (lp13 : np13 ≤ cp13) :
    Calls Tryz.prog 21 #[.agg #[.slice Ap0 np0 cp0, .slice Ap1 np1 cp1, .slice Ap2 np2 cp2, .slice Ap3 np3 cp3, .int .i64 a0.f0.f2, .int .i64 a0.f0.f3, .int .i64 a0.f0.f4, .slice Ap4 np4 cp4, .string a0.f1.f0, .int .i64 a0.f1.f1, .slice Ap5 np5 cp5, .slice Ap6 np6 cp6, .slice Ap7 np7 cp7, .slice Ap8 np8 cp8, .slice Ap9 np9 cp9, .slice Ap10 np10 cp10, .slice Ap11 np11 cp11, .slice Ap12 np12 cp12, .slice Ap13 np13 cp13], .int .i64 a1] w (fun e w' => e = .returned (.int .i64 r) ∧ Hp noFP w w' []) := by
 obtain rfl := C_len gp0
 obtain rfl := C_len gp1
 obtain rfl := C_len gp2
 obtain rfl := C_len gp3
 obtain rfl := C_len gp4
 obtain rfl := C_len gp5
 obtain rfl := C_len gp6
 obtain rfl := C_len gp7
 obtain rfl := C_len gp8
 obtain rfl := C_len gp9
 obtain rfl := C_len gp10
 obtain rfl := C_len gp11
 obtain rfl := C_len gp12
 obtain rfl := C_len gp13
 have HS := Hp.start w
 have H := Aside0.mk h
 clear h
 unfold laws_szWorld.f at H
 go_enter Tryz.func21, Tryz.ntmps21
 replace H := zbind H; obtain ⟨t3, ht3, H⟩ := H
 go_upto_if 10 with (first | ((with_reducible refine gd 2 rfl ?_); refine ev_bx HS ?_; clear HS; (try clear F); intro g2 w2 HS F) | ((with_reducible refine gd 8 rfl ?_); refine ev_cl HS (laws_szServer.calls ht3.out (HS.ro gp0) lp0 (HS.ro gp1) lp1 (HS.ro gp2) lp2 (HS.ro gp3) lp3 (HS.ro gp4) lp4) Tryz.func16 ?_; clear HS; (try clear F); intro wt3 HS F))
 replace H := zif H; rcases H with ⟨c5, H⟩ | ⟨c5, H⟩
 case inl =>
  (try simp only [c5, dcn])
  obtain rfl := zsome H
  go_wp2
  go_ret
  exact HS.pk
 (try simp only [c5, dcn])
 replace H := zbind H; obtain ⟨t6, ht6, H⟩ := H
 go_upto_if 16 with (first | ((with_reducible refine gd 14 rfl ?_); refine ev_cl HS (laws_szClient.calls ht6.out (HS.ro gp5) lp5 (HS.ro gp6) lp6 (HS.ro gp7) lp7) Tryz.func83 ?_; clear HS; (try clear F); intro wt6 HS F))
 replace H := zif H; rcases H with ⟨c8, H⟩ | ⟨c8, H⟩
 case inl =>
  (try simp only [c8, dcn])
  obtain rfl := zsome H
  go_wp2
  go_ret
  exact HS.pk
 (try simp only [c8, dcn])
 replace H := zbind H; obtain ⟨t9, ht9, H⟩ := H
 go_upto_if 22 with (first | ((with_reducible refine gd 20 rfl ?_); refine ev_cl HS (laws_szCertS.calls ht9.out (HS.ro gp8) lp8) Tryz.func51 ?_; clear HS; (try clear F); intro wt9 HS F))
 replace H := zif H; rcases H with ⟨c11, H⟩ | ⟨c11, H⟩
 case inl =>
  (try simp only [c11, dcn])
  obtain rfl := zsome H
  go_wp2
  go_ret
  exact HS.pk
 (try simp only [c11, dcn])
 replace H := zbind H; obtain ⟨t12, ht12, H⟩ := H
 go_upto_if 28 with (first | ((with_reducible refine gd 26 rfl ?_); refine ev_cl HS (laws_szLetterS.calls ht12.out (HS.ro gp9) lp9) Tryz.func84 ?_; clear HS; (try clear F); intro wt12 HS F))
 replace H := zif H; rcases H with ⟨c14, H⟩ | ⟨c14, H⟩
 case inl =>
  (try simp only [c14, dcn])
  obtain rfl := zsome H
  go_wp2
  go_ret
  exact HS.pk
 (try simp only [c14, dcn])
 replace H := zbind H; obtain ⟨t15, ht15, H⟩ := H
 go_upto_if 34 with (first | ((with_reducible refine gd 32 rfl ?_); refine ev_cl HS (laws_szIntS.calls ht15.out (HS.ro gp10) lp10) Tryz.func85 ?_; clear HS; (try clear F); intro wt15 HS F))
 replace H := zif H; rcases H with ⟨c17, H⟩ | ⟨c17, H⟩
 case inl =>
  (try simp only [c17, dcn])
  obtain rfl := zsome H
  go_wp2
  go_ret
  exact HS.pk
 (try simp only [c17, dcn])
 replace H := zbind H; obtain ⟨t18, ht18, H⟩ := H
 go_upto_if 40 with (first | ((with_reducible refine gd 38 rfl ?_); refine ev_cl HS (laws_szPoseS.calls ht18.out (HS.ro gp11) lp11) Tryz.func86 ?_; clear HS; (try clear F); intro wt18 HS F))
 replace H := zif H; rcases H with ⟨c20, H⟩ | ⟨c20, H⟩
 case inl =>
  (try simp only [c20, dcn])
  obtain rfl := zsome H
  go_wp2
  go_ret
  exact HS.pk
 (try simp only [c20, dcn])
 replace H := zbind H; obtain ⟨t21, ht21, H⟩ := H
 go_upto_if 46 with (first | ((with_reducible refine gd 44 rfl ?_); refine ev_cl HS (laws_szStringS.calls ht21.out (HS.ro gp12) lp12) Tryz.func87 ?_; clear HS; (try clear F); intro wt21 HS F))
 replace H := zif H; rcases H with ⟨c23, H⟩ | ⟨c23, H⟩
 case inl =>
  (try simp only [c23, dcn])
  obtain rfl := zsome H
  go_wp2
  go_ret
  exact HS.pk
 (try simp only [c23, dcn])
 replace H := zbind H; obtain ⟨t24, ht24, H⟩ := H
 go_upto_if 52 with (first | ((with_reducible refine gd 50 rfl ?_); refine ev_cl HS (laws_szStringS.calls ht24.out (HS.ro gp13) lp13) Tryz.func87 ?_; clear HS; (try clear F); intro wt24 HS F))
 replace H := zif H; rcases H with ⟨c26, H⟩ | ⟨c26, H⟩
 case inl =>
  (try simp only [c26, dcn])
  obtain rfl := zsome H
  go_wp2
  go_ret
  exact HS.pk
 (try simp only [c26, dcn])
 obtain rfl := zsome H
 go_wp2
 go_ret
 exact HS.pk
/-! ### spec_l01Figure: function 164 -/
def spec_l01Figure.f (a0 : Int) : Option (Int) := (if a0 < 10 then (some ((wrap64 (48 + a0)) % 256)) else (some ((wrap64 ((wrap64 (97 + a0)) - 10)) % 256)))
set_option maxHeartbeats 16000000 in
theorem spec_l01Figure.calls {a0 : Int} {r : Int} {w : World} (h : spec_l01Figure.f a0 = some r) :
    Calls Tryz.prog 164 #[.int .i64 a0] w (fun e w' => e = .returned (.int .u8 r) ∧ Hp noFP w w' []) := by
 have HS := Hp.start w
 have H := Aside0.mk h
 clear h
 unfold spec_l01Figure.f at H
 go_enter Tryz.func164, Tryz.ntmps164
 replace H := zif H; rcases H with ⟨c1, H⟩ | ⟨c1, H⟩
 case inl =>
  obtain rfl := zsome H
  go_wp2
  go_ret
  exact HS.pk
 obtain rfl := zsome H
 go_wp2
 go_ret
 exact HS.pk
/-! ### spec_Decimal: function 90 -/
def spec_Decimal.l0 : Nat → Int → ByteArray → Int → Option (ByteArray)
  | 0, _, _, _ => none
  | k + 1, x10, x11, a0 => (if x10 = 0 then (if a0 < 0 then (if (⟨#[45]⟩ : ByteArray).size + x11.size ≤ 9223372036854775807 then (some ((⟨#[45]⟩ : ByteArray) ++ x11)) else none) else (some x11)) else (if (Int.tmod x10 10) < 0 then ((spec_l01Figure.f (wrap64 (-(Int.tmod x10 10)))).bind fun t17 => (if (strOfNums ([t17] : List Int)).size + x11.size ≤ 9223372036854775807 then (spec_Decimal.l0 k (wrap64 (Int.tdiv x10 10)) ((strOfNums ([t17] : List Int)) ++ x11) a0) else none)) else ((spec_l01Figure.f (Int.tmod x10 10)).bind fun t22 => (if (strOfNums ([t22] : List Int)).size + x11.size ≤ 9223372036854775807 then (spec_Decimal.l0 k (wrap64 (Int.tdiv x10 10)) ((strOfNums ([t22] : List Int)) ++ x11) a0) else none))))
def spec_Decimal.f (k : Nat) (a0 : Int) : Option (ByteArray) := (if a0 = 0 then (some (⟨#[48]⟩ : ByteArray)) else (spec_Decimal.l0 k a0 (⟨#[]⟩ : ByteArray) a0))
set_option maxHeartbeats 16000000 in
theorem spec_Decimal.calls {k : Nat} {a0 : Int} {r : ByteArray} {w : World} (h : spec_Decimal.f k a0 = some r) :
    Calls Tryz.prog 90 #[.int .i64 a0] w (fun e w' => e = .returned (.string r) ∧ Hp noFP w w' []) := by
 have HS := Hp.start w
 have H := Aside0.mk h
 clear h
 unfold spec_Decimal.f at H
 go_enter Tryz.func90, Tryz.ntmps90
 replace H := zif' H; rcases H with ⟨c1, H⟩ | ⟨c1, H⟩
 case inl =>
  have c1a := beq_iff_eq.mpr c1
  have c1b := bne_eq_false_iff_eq.mpr c1
  clear c1
  obtain rfl := zsome H
  go_wp2
  go_ret
  exact HS.pk
 have c1a := beq_eq_false_iff_ne.mpr c1
 have c1b := bne_iff_ne.mpr c1
 clear c1
 go_wp2
 go_loopg [0, 4] k (fun kq v_0 v_4 w' => ∃ (x10 : Int) (x11 : ByteArray), v_0 = .int .i64 x10 ∧ v_4 = .string x11 ∧ Aside0 (spec_Decimal.l0 kq x10 x11 a0 = some r) ∧ Aside0 (kq ≤ k) ∧ Hp noFP w w' [])
 case atStart => exact ⟨_, _, rfl, rfl, H, ⟨Nat.le_refl _⟩, HS⟩
 case round =>
  clear HS H; (try clear F)
  obtain ⟨x10, x11, rfl, rfl, H, HKk9, HS⟩ := hrel
  cases gk with
  | zero => exact absurd H.out (by simp [spec_Decimal.l0])
  | succ k9 =>
   simp only [spec_Decimal.l0] at H
   replace H := zif' H; rcases H with ⟨c13, H⟩ | ⟨c13, H⟩
   case inl =>
    have c13a := beq_iff_eq.mpr c13
    have c13b := bne_eq_false_iff_eq.mpr c13
    clear c13
    replace H := znif H; rcases H with ⟨c14, H⟩ | ⟨c14, H⟩
    case inl =>
     obtain rfl := zsome H
     go_wp2
     all_goals (try (exfalso; have hq := of_eq_false c14; omega))
     go_ret
     exact HS.pk
    replace H := zgo H; obtain ⟨c15, H⟩ := H
    obtain rfl := zsome H
    go_wp2_with (first | ((with_reducible refine gd 28 rfl ?_); refine ev_val rfl (run_cat rfl rfl rfl (of_eq_true c15)) ?_))
    all_goals (try (exfalso; have hq := of_eq_true c14; omega))
    go_ret
    exact HS.pk
   have c13a := beq_eq_false_iff_ne.mpr c13
   have c13b := bne_iff_ne.mpr c13
   clear c13
   replace H := znif H; rcases H with ⟨c16, H⟩ | ⟨c16, H⟩
   case inl =>
    replace H := zbind H; obtain ⟨t22, ht22, H⟩ := H
    replace H := zgo H; obtain ⟨c26, H⟩ := H
    go_wp2_with (first | ((with_reducible refine gd 19 rfl ?_); refine ev_cl HS (spec_l01Figure.calls ht22.out) Tryz.func164 ?_; clear HS; (try clear F); intro wt22 HS F) | ((with_reducible refine gd 20 rfl ?_); refine ev_li (Zd.int .u8) [] ([t22] : List Int) ([.int .u8 t22] ++ []) HS (MadeL.cons (js1 := []) (c := [.int .u8 t22]) rfl (made_flat (fun _ => rfl)) MadeL.nil (by decide)) ?_; clear HS; (try clear F); intro v24 w24 HS F; obtain ⟨B24, d24, rfl, m24⟩ := HS.formn 1 0 rfl rfl) | ((with_reducible refine gd 21 rfl ?_); refine ev_val rfl (run_str rfl rfl Tryz.underlying225 Tryz.underlying5 Tryz.underlying9 (HS.rd 0 rfl)) ?_) | ((with_reducible refine gd 23 rfl ?_); refine ev_val rfl (run_cat rfl rfl rfl (of_eq_true c26)) ?_))
    go_roundg k9
    case measure => have := HKk9.out; omega
    case rel => exact ⟨_, _, rfl, rfl, H, ⟨by have := HKk9.out; omega⟩, HS.pick [] (by decide) (by rfl)⟩
   replace H := zbind H; obtain ⟨t17, ht17, H⟩ := H
   replace H := zgo H; obtain ⟨c21, H⟩ := H
   go_wp2_with (first | ((with_reducible refine gd 19 rfl ?_); refine ev_cl HS (spec_l01Figure.calls ht17.out) Tryz.func164 ?_; clear HS; (try clear F); intro wt17 HS F) | ((with_reducible refine gd 20 rfl ?_); refine ev_li (Zd.int .u8) [] ([t17] : List Int) ([.int .u8 t17] ++ []) HS (MadeL.cons (js1 := []) (c := [.int .u8 t17]) rfl (made_flat (fun _ => rfl)) MadeL.nil (by decide)) ?_; clear HS; (try clear F); intro v19 w19 HS F; obtain ⟨B19, d19, rfl, m19⟩ := HS.formn 1 0 rfl rfl) | ((with_reducible refine gd 21 rfl ?_); refine ev_val rfl (run_str rfl rfl Tryz.underlying225 Tryz.underlying5 Tryz.underlying9 (HS.rd 0 rfl)) ?_) | ((with_reducible refine gd 23 rfl ?_); refine ev_val rfl (run_cat rfl rfl rfl (of_eq_true c21)) ?_))
   go_roundg k9
   case measure => have := HKk9.out; omega
   case rel => exact ⟨_, _, rfl, rfl, H, ⟨by have := HKk9.out; omega⟩, HS.pick [] (by decide) (by rfl)⟩
/-! ### spec_l21Num: function 89 -/
def spec_l21Num.f (k : Nat) (a0 : Int) : Option (ByteArray) := (if a0 < 0 then (some (⟨#[48]⟩ : ByteArray)) else ((spec_Decimal.f k a0).bind fun t2 => (some t2)))
set_option maxHeartbeats 16000000 in
theorem spec_l21Num.calls {k : Nat} {a0 : Int} {r : ByteArray} {w : World} (h : spec_l21Num.f k a0 = some r) :
    Calls Tryz.prog 89 #[.int .i64 a0] w (fun e w' => e = .returned (.string r) ∧ Hp noFP w w' []) := by
 have HS := Hp.start w
 have H := Aside0.mk h
 clear h
 unfold spec_l21Num.f at H
 go_enter Tryz.func89, Tryz.ntmps89
 replace H := zif H; rcases H with ⟨c1, H⟩ | ⟨c1, H⟩
 case inl =>
  obtain rfl := zsome H
  go_wp2
  go_ret
  exact HS.pk
 replace H := zbind H; obtain ⟨t2, ht2, H⟩ := H
 obtain rfl := zsome H
 go_wp2_with (first | ((with_reducible refine gd 6 rfl ?_); refine ev_cl HS (spec_Decimal.calls ht2.out) Tryz.func90 ?_; clear HS; (try clear F); intro wt2 HS F))
 go_ret
 exact HS.pk
/-! ### spec_ShowReply: function 163 -/
def spec_ShowReply.l0 : Nat → ByteArray → Int → S221 → Option (ByteArray)
  | 0, _, _, _ => none
  | k + 1, x21, x22, a0 => (if x22 < (a0.f6.length : Int) then (if 0 ≤ x22 then (if x22 < (a0.f6.length : Int) then (if x21.size + (⟨#[32]⟩ : ByteArray).size ≤ 9223372036854775807 then ((spec_l21Num.f k ((rd_T273 a0.f6 x22).f0)).bind fun t14 => (if (x21 ++ (⟨#[32]⟩ : ByteArray)).size + t14.size ≤ 9223372036854775807 then (if ((x21 ++ (⟨#[32]⟩ : ByteArray)) ++ t14).size + (⟨#[47]⟩ : ByteArray).size ≤ 9223372036854775807 then ((spec_l21Num.f k ((rd_T273 a0.f6 x22).f1)).bind fun t17 => (if (((x21 ++ (⟨#[32]⟩ : ByteArray)) ++ t14) ++ (⟨#[47]⟩ : ByteArray)).size + t17.size ≤ 9223372036854775807 then (if ((((x21 ++ (⟨#[32]⟩ : ByteArray)) ++ t14) ++ (⟨#[47]⟩ : ByteArray)) ++ t17).size + (⟨#[47]⟩ : ByteArray).size ≤ 9223372036854775807 then ((spec_Decimal.f k ((rd_T273 a0.f6 x22).f2.length : Int)).bind fun t23 => (if (((((x21 ++ (⟨#[32]⟩ : ByteArray)) ++ t14) ++ (⟨#[47]⟩ : ByteArray)) ++ t17) ++ (⟨#[47]⟩ : ByteArray)).size + t23.size ≤ 9223372036854775807 then (spec_ShowReply.l0 k ((((((x21 ++ (⟨#[32]⟩ : ByteArray)) ++ t14) ++ (⟨#[47]⟩ : ByteArray)) ++ t17) ++ (⟨#[47]⟩ : ByteArray)) ++ t23) (wrap64 (x22 + 1)) a0) else none)) else none) else none)) else none) else none)) else none) else none) else none) else (if x21.size + (⟨#[10]⟩ : ByteArray).size ≤ 9223372036854775807 then (some (x21 ++ (⟨#[10]⟩ : ByteArray))) else none))
def spec_ShowReply.f (k : Nat) (a0 : S221) : Option (ByteArray) := ((spec_l21Num.f k a0.f1).bind fun t8 => (if (⟨#[114, 101, 112, 108, 121, 32]⟩ : ByteArray).size + t8.size ≤ 9223372036854775807 then (if ((⟨#[114, 101, 112, 108, 121, 32]⟩ : ByteArray) ++ t8).size + (⟨#[32, 101, 114, 114, 111, 114, 32]⟩ : ByteArray).size ≤ 9223372036854775807 then ((spec_l21Num.f k a0.f5).bind fun t11 => (if (((⟨#[114, 101, 112, 108, 121, 32]⟩ : ByteArray) ++ t8) ++ (⟨#[32, 101, 114, 114, 111, 114, 32]⟩ : ByteArray)).size + t11.size ≤ 9223372036854775807 then (spec_ShowReply.l0 k ((((⟨#[114, 101, 112, 108, 121, 32]⟩ : ByteArray) ++ t8) ++ (⟨#[32, 101, 114, 114, 111, 114, 32]⟩ : ByteArray)) ++ t11) 0 a0) else none)) else none) else none))
def spec_ShowReply.T1 : Bool × List (List Nat × List Nat) := (true, [([], []), ([0], [0]), ([1], [1]), ([2], [2]), ([3], [3]), ([], []), ([5], [5]), ([6, 2], [6]), ([4, 7], [4, 7]), ([8, 7, 0, 1, 2, 3, 4, 5, 6, 7, 8], [8])])
theorem spec_ShowReply.tT1 : rtab .any (opsOf Tryz.f163 1) = spec_ShowReply.T1 := by kernel_rfl
def spec_ShowReply.T6 : Bool × List (List Nat × List Nat) := (true, [([], []), ([0], [0]), ([], []), ([2], [2]), ([3], [3]), ([1, 4], [1, 4]), ([5], [5]), ([], []), ([7], [7]), ([8, 4], [8]), ([6, 9], [6, 9]), ([10], [10]), ([], []), ([12], [12]), ([13], [13]), ([14, 9], [14]), ([11, 15], [11, 15]), ([16, 15, 0, 1, 2, 3, 4, 5, 6, 7, 8, 9, 10, 11, 12, 13, 14, 15, 16], [0, 16])])
theorem spec_ShowReply.tT6 : rtab .any (opsOf Tryz.f163 6) = spec_ShowReply.T6 := by kernel_rfl
set_option maxHeartbeats 16000000 in
theorem spec_ShowReply.calls {k : Nat} {a0 : S221} {Ap0 : Option Addr} {np0 cp0 : Nat} {r : ByteArray} {w : World} (h : spec_ShowReply.f k a0 = some r) (gp0 : k273.C w Ap0 np0 a0.f6) (lp0 : np0 ≤ cp0) :
    Calls Tryz.prog 163 #[.agg #[.string a0.f0, .int .i64 a0.f1, .int .i64 a0.f2, .int .i64 a0.f3, .int .i64 a0.f4, .int .i64 a0.f5, .slice Ap0 np0 cp0, .string a0.f7]] w (fun e w' => e = .returned (.string r) ∧ Hp noFP w w' []) := by
 obtain rfl := C_len gp0
 have HS := Hp.start w
 have H := Aside0.mk h
 clear h
 unfold spec_ShowReply.f at H
 go_enter Tryz.func163, Tryz.ntmps163
 go_wp2_with (first | ((with_reducible refine gd 1 rfl ?_); refine ev_bx HS ?_; clear HS; (try clear F); intro g1 w1 HS F))
 replace H := zbind H; obtain ⟨t8, ht8, H⟩ := H
 replace H := zgo H; obtain ⟨c9, H⟩ := H
 replace H := zgo H; obtain ⟨c10, H⟩ := H
 replace H := zbind H; obtain ⟨t11, ht11, H⟩ := H
 replace H := zgo H; obtain ⟨c12, H⟩ := H
 refine dr_start [] HS #[false, false, false, false, false, false, false, false, false, false] (by kernel_rfl) rfl rfl spec_ShowReply.tT1 (fun w4 HT HS HH => ?_)
 (try clear F)
 refine drq_of [(0, some 6), (1, some 7), (5, some 11), (6, some 12)] ?_
 repeat (first | refine drp HT ?_ | refine drt HT HH ?_)
 refine drq_end ?_
 refine dr1 2 HT fun K hK => ?_
 refine go_cl HS (spec_l21Num.calls ht8.out) Tryz.func89 ?_; clear HS; (try clear F); intro wt8 HS F
 refine nrm 8 hK ⟨_, HS⟩ (fun HH => ?_); clear hK K
 refine dr_pure 3 (some 9) HT (v := .string ((⟨#[114, 101, 112, 108, 121, 32]⟩ : ByteArray) ++ t8)) (a' := ?_) rfl rfl (by kernel_rfl) (fun _ _ _ h => h) (.inl ⟨by rfl, fun w' => (run_cat rfl rfl rfl (of_eq_true c9))⟩) ?_ ?_
 rotate_left
 · simp only [Act.put, ptn]; rfl
 refine dr_pure 4 (some 10) HT (v := .string (((⟨#[114, 101, 112, 108, 121, 32]⟩ : ByteArray) ++ t8) ++ (⟨#[32, 101, 114, 114, 111, 114, 32]⟩ : ByteArray))) (a' := ?_) rfl rfl (by kernel_rfl) (fun _ _ _ h => h) (.inl ⟨by rfl, fun w' => (run_cat rfl rfl rfl (of_eq_true c10))⟩) ?_ ?_
 rotate_left
 · simp only [Act.put, ptn]; rfl
 refine dr1 7 HT fun K hK => ?_
 refine go_cl HS (spec_l21Num.calls ht11.out) Tryz.func89 ?_; clear HS; (try clear F); intro wt11 HS F
 refine nrm 13 hK ⟨_, HS⟩ (fun HH => ?_); clear hK K
 refine dr_pure 8 (some 14) HT (v := .string ((((⟨#[114, 101, 112, 108, 121, 32]⟩ : ByteArray) ++ t8) ++ (⟨#[32, 101, 114, 114, 111, 114, 32]⟩ : ByteArray)) ++ t11)) (a' := ?_) rfl rfl (by kernel_rfl) (fun _ _ _ h => h) (.inl ⟨by rfl, fun w' => (run_cat rfl rfl rfl (of_eq_true c12))⟩) ?_ ?_
 rotate_left
 · simp only [Act.put, ptn]; rfl
 refine drq_of [(9, some 3)] ?_
 repeat (refine drp HT ?_)
 refine drq_end ?_
 refine done_ (done_of HT.out (by kernel_rfl)) ?_
 (try clear F)
 have F := HS.boxes; simp only [bxn] at F
 go_wp2
 go_loopg [3, 4] k (fun kq v_3 v_4 w' => ∃ (x21 : ByteArray) (x22 : Int), v_3 = .string x21 ∧ v_4 = .int .i64 x22 ∧ Aside0 (spec_ShowReply.l0 kq x21 x22 a0 = some r) ∧ Aside0 (kq ≤ k) ∧ Hp noFP w w' [.box g1 [.string a0.f0, .int .i64 a0.f1, .int .i64 a0.f2, .int .i64 a0.f3, .int .i64 a0.f4, .int .i64 a0.f5, .slice Ap0 a0.f6.length cp0, .string a0.f7] 221])
 case atStart => exact ⟨_, _, rfl, rfl, H, ⟨Nat.le_refl _⟩, HS⟩
 case round =>
  clear HS H; (try clear F)
  obtain ⟨x21, x22, rfl, rfl, H, HKk20, HS⟩ := hrel
  have F := HS.boxes; simp only [bxn] at F
  cases gk with
  | zero => exact absurd H.out (by simp [spec_ShowReply.l0])
  | succ k20 =>
   simp only [spec_ShowReply.l0] at H
   replace H := znif H; rcases H with ⟨c24, H⟩ | ⟨c24, H⟩
   case inl =>
    replace H := zgo H; obtain ⟨c35, H⟩ := H
    obtain rfl := zsome H
    go_wp2_with (first | ((with_reducible refine gd 45 rfl ?_); refine ev_val rfl (run_cat rfl rfl rfl (of_eq_true c35)) ?_))
    go_ret
    exact HS.pk
   replace H := zgo H; obtain ⟨c25, H⟩ := H
   replace H := zgo H; obtain ⟨c26, H⟩ := H
   obtain ⟨ad27, B27_2, d27_2, B27_3, d27_3, rfl, e27_0, e27_1, e27_2, e27_3, m27_2, y27_2, m27_3, y27_3⟩ := at_T273 gp0 x22 (of_eq_true c25) (of_eq_true c26)
   have e27_0_27 := (HS.keepc e27_0)
   have e27_1_27 := (HS.keepc e27_1)
   have e27_2_27 := (HS.keepc e27_2)
   have e27_3_27 := (HS.keepc e27_3)
   go_wp2_with (first | ((with_reducible refine gd 5 rfl ?_); refine ev_bx HS ?_; clear HS; (try clear F); intro g5 w5 HS F) | ((with_reducible refine gate_store (p := 5) rfl ?_); refine ev_st 1 0 HS (seg := [.int .i64 ((rd_T273 a0.f6 x22).f0), .int .i64 ((rd_T273 a0.f6 x22).f1), .slice B27_2 (rd_T273 a0.f6 x22).f2.length d27_2, .slice B27_3 (rd_T273 a0.f6 x22).f3.length d27_3]) ?_; clear HS; (try clear F); intro w30 HS F))
   replace H := zgo H; obtain ⟨c13, H⟩ := H
   replace H := zbind H; obtain ⟨t14, ht14, H⟩ := H
   replace H := zgo H; obtain ⟨c15, H⟩ := H
   replace H := zgo H; obtain ⟨c16, H⟩ := H
   replace H := zbind H; obtain ⟨t17, ht17, H⟩ := H
   replace H := zgo H; obtain ⟨c18, H⟩ := H
   replace H := zgo H; obtain ⟨c19, H⟩ := H
   replace H := zbind H; obtain ⟨t23, ht23, H⟩ := H
   replace H := zgo H; obtain ⟨c28, H⟩ := H
   refine dr_start [] HS #[false, false, false, false, false, false, false, false, false, false, false, false, false, false, false, false, false, false] (by kernel_rfl) rfl rfl spec_ShowReply.tT6 (fun w33 HT HS HH => ?_)
   (try clear F)
   refine drq_of [(0, some 27)] ?_
   repeat (refine drp HT ?_)
   refine drq_end ?_
   refine dr_pure 1 (some 28) HT (v := .string (x21 ++ (⟨#[32]⟩ : ByteArray))) (a' := ?_) rfl rfl (by kernel_rfl) (fun _ _ _ h => h) (.inl ⟨by rfl, fun w' => (run_cat rfl rfl rfl (of_eq_true c13))⟩) ?_ ?_
   rotate_left
   · simp only [Act.put, ptn]; rfl
   refine drq_of [(2, some 29), (3, some 30), (7, some 34), (8, some 35), (12, some 39), (13, some 40), (14, some 41)] ?_
   repeat (first | refine drp HT ?_ | refine drt HT HH ?_)
   refine drq_end ?_
   refine dr1 4 HT fun K hK => ?_
   refine go_cl HS (spec_l21Num.calls ht14.out) Tryz.func89 ?_; clear HS; (try clear F); intro wt14 HS F
   refine nrm 31 hK ⟨_, HS⟩ (fun HH => ?_); clear hK K
   refine dr_pure 5 (some 32) HT (v := .string ((x21 ++ (⟨#[32]⟩ : ByteArray)) ++ t14)) (a' := ?_) rfl rfl (by kernel_rfl) (fun _ _ _ h => h) (.inl ⟨by rfl, fun w' => (run_cat rfl rfl rfl (of_eq_true c15))⟩) ?_ ?_
   rotate_left
   · simp only [Act.put, ptn]; rfl
   refine dr_pure 6 (some 33) HT (v := .string (((x21 ++ (⟨#[32]⟩ : ByteArray)) ++ t14) ++ (⟨#[47]⟩ : ByteArray))) (a' := ?_) rfl rfl (by kernel_rfl) (fun _ _ _ h => h) (.inl ⟨by rfl, fun w' => (run_cat rfl rfl rfl (of_eq_true c16))⟩) ?_ ?_
   rotate_left
   · simp only [Act.put, ptn]; rfl
   refine dr1 9 HT fun K hK => ?_
   refine go_cl HS (spec_l21Num.calls ht17.out) Tryz.func89 ?_; clear HS; (try clear F); intro wt17 HS F
   refine nrm 36 hK ⟨_, HS⟩ (fun HH => ?_); clear hK K
   refine dr_pure 10 (some 37) HT (v := .string ((((x21 ++ (⟨#[32]⟩ : ByteArray)) ++ t14) ++ (⟨#[47]⟩ : ByteArray)) ++ t17)) (a' := ?_) rfl rfl (by kernel_rfl) (fun _ _ _ h => h) (.inl ⟨by rfl, fun w' => (run_cat rfl rfl rfl (of_eq_true c18))⟩) ?_ ?_
   rotate_left
   · simp only [Act.put, ptn]; rfl
   refine dr_pure 11 (some 38) HT (v := .string (((((x21 ++ (⟨#[32]⟩ : ByteArray)) ++ t14) ++ (⟨#[47]⟩ : ByteArray)) ++ t17) ++ (⟨#[47]⟩ : ByteArray))) (a' := ?_) rfl rfl (by kernel_rfl) (fun _ _ _ h => h) (.inl ⟨by rfl, fun w' => (run_cat rfl rfl rfl (of_eq_true c19))⟩) ?_ ?_
   rotate_left
   · simp only [Act.put, ptn]; rfl
   refine dr1 15 HT fun K hK => ?_
   refine go_cl HS (spec_Decimal.calls ht23.out) Tryz.func90 ?_; clear HS; (try clear F); intro wt23 HS F
   refine nrm 42 hK ⟨_, HS⟩ (fun HH => ?_); clear hK K
   refine dr_pure 16 (some 43) HT (v := .string ((((((x21 ++ (⟨#[32]⟩ : ByteArray)) ++ t14) ++ (⟨#[47]⟩ : ByteArray)) ++ t17) ++ (⟨#[47]⟩ : ByteArray)) ++ t23)) (a' := ?_) rfl rfl (by kernel_rfl) (fun _ _ _ h => h) (.inl ⟨by rfl, fun w' => (run_cat rfl rfl rfl (of_eq_true c28))⟩) ?_ ?_
   rotate_left
   · simp only [Act.put, ptn]; rfl
   refine drq_of [(17, some 3)] ?_
   repeat (refine drp HT ?_)
   refine drq_end ?_
   refine done_ (done_of HT.out (by kernel_rfl)) ?_
   (try clear F)
   have F := HS.boxes; simp only [bxn] at F
   go_wp2
   go_roundg k20
   case measure => have := HKk20.out; omega
   case rel => exact ⟨_, _, rfl, rfl, H, ⟨by have := HKk20.out; omega⟩, HS.pick [0] (by decide) (by rfl)⟩
/-! ### spec_ShowClient: function 88 -/
def spec_ShowClient.l0 : Nat → ByteArray → Int → S65 → Option (ByteArray)
  | 0, _, _, _ => none
  | k + 1, x13, x14, a0 => (if x14 < (a0.f3.length : Int) then (if 0 ≤ x14 then (if x14 < (a0.f3.length : Int) then ((spec_ShowReply.f k (⟨(rd_T223 a0.f3 x14).f1.f0, (rd_T223 a0.f3 x14).f1.f1, (rd_T223 a0.f3 x14).f1.f2, (rd_T223 a0.f3 x14).f1.f3, (rd_T223 a0.f3 x14).f1.f4, (rd_T223 a0.f3 x14).f1.f5, (rd_T223 a0.f3 x14).f1.f6, (rd_T223 a0.f3 x14).f1.f7⟩ : S221)).bind fun t20 => (if x13.size + t20.size ≤ 9223372036854775807 then (spec_ShowClient.l0 k (x13 ++ t20) (wrap64 (x14 + 1)) a0) else none)) else none) else none) else (some x13))
def spec_ShowClient.f (k : Nat) (a0 : S65) : Option (ByteArray) := ((spec_Decimal.f k (a0.f2.length : Int)).bind fun t8 => (if (⟨#[119, 97, 105, 116, 115, 32]⟩ : ByteArray).size + t8.size ≤ 9223372036854775807 then (if ((⟨#[119, 97, 105, 116, 115, 32]⟩ : ByteArray) ++ t8).size + (⟨#[32, 108, 97, 116, 101, 32]⟩ : ByteArray).size ≤ 9223372036854775807 then ((spec_Decimal.f k (a0.f4.length : Int)).bind fun t11 => (if (((⟨#[119, 97, 105, 116, 115, 32]⟩ : ByteArray) ++ t8) ++ (⟨#[32, 108, 97, 116, 101, 32]⟩ : ByteArray)).size + t11.size ≤ 9223372036854775807 then (if ((((⟨#[119, 97, 105, 116, 115, 32]⟩ : ByteArray) ++ t8) ++ (⟨#[32, 108, 97, 116, 101, 32]⟩ : ByteArray)) ++ t11).size + (⟨#[10]⟩ : ByteArray).size ≤ 9223372036854775807 then (spec_ShowClient.l0 k (((((⟨#[119, 97, 105, 116, 115, 32]⟩ : ByteArray) ++ t8) ++ (⟨#[32, 108, 97, 116, 101, 32]⟩ : ByteArray)) ++ t11) ++ (⟨#[10]⟩ : ByteArray)) 0 a0) else none) else none)) else none) else none))
def spec_ShowClient.T1 : Bool × List (List Nat × List Nat) := (true, [([], []), ([0], [0]), ([1], [1]), ([2], [2]), ([3], [3]), ([4], [4]), ([], []), ([6], [6]), ([7], [7]), ([8, 3], [8]), ([5, 9], [5, 9]), ([10], [10]), ([11, 9, 0, 1, 2, 3, 4, 5, 6, 7, 8, 9, 10, 11], [11])])
theorem spec_ShowClient.tT1 : rtab .any (opsOf Tryz.f88 1) = spec_ShowClient.T1 := by kernel_rfl
set_option maxHeartbeats 16000000 in
theorem spec_ShowClient.calls {k : Nat} {a0 : S65} {Ap0 : Option Addr} {np0 cp0 : Nat} {Ap1 : Option Addr} {np1 cp1 : Nat} {Ap2 : Option Addr} {np2 cp2 : Nat} {r : ByteArray} {w : World} (h : spec_ShowClient.f k a0 = some r) (gp0 : k274.C w Ap0 np0 a0.f2) (lp0 : np0 ≤ cp0) (gp1 : k223.C w Ap1 np1 a0.f3) (lp1 : np1 ≤ cp1) (gp2 : (Kd.int .i64).C w Ap2 np2 a0.f4) (lp2 : np2 ≤ cp2) :
    Calls Tryz.prog 88 #[.agg #[.string a0.f0, .int .i64 a0.f1, .slice Ap0 np0 cp0, .slice Ap1 np1 cp1, .slice Ap2 np2 cp2]] w (fun e w' => e = .returned (.string r) ∧ Hp noFP w w' []) := by
 obtain rfl := C_len gp0
 obtain rfl := C_len gp1
 obtain rfl := C_len gp2
 have HS := Hp.start w
 have H := Aside0.mk h
 clear h
 unfold spec_ShowClient.f at H
 go_enter Tryz.func88, Tryz.ntmps88
 go_wp2_with (first | ((with_reducible refine gd 1 rfl ?_); refine ev_bx HS ?_; clear HS; (try clear F); intro g1 w1 HS F))
 replace H := zbind H; obtain ⟨t8, ht8, H⟩ := H
 replace H := zgo H; obtain ⟨c9, H⟩ := H
 replace H := zgo H; obtain ⟨c10, H⟩ := H
 replace H := zbind H; obtain ⟨t11, ht11, H⟩ := H
 replace H := zgo H; obtain ⟨c15, H⟩ := H
 replace H := zgo H; obtain ⟨c21, H⟩ := H
 refine dr_start [] HS #[false, false, false, false, false, false, false, false, false, false, false, false, false] (by kernel_rfl) rfl rfl spec_ShowClient.tT1 (fun w4 HT HS HH => ?_)
 (try clear F)
 refine drq_of [(0, some 5), (1, some 6), (2, some 7), (6, some 11), (7, some 12), (8, some 13)] ?_
 repeat (first | refine drp HT ?_ | refine drt HT HH ?_)
 refine drq_end ?_
 refine dr1 3 HT fun K hK => ?_
 refine go_cl HS (spec_Decimal.calls ht8.out) Tryz.func90 ?_; clear HS; (try clear F); intro wt8 HS F
 refine nrm 8 hK ⟨_, HS⟩ (fun HH => ?_); clear hK K
 refine dr_pure 4 (some 9) HT (v := .string ((⟨#[119, 97, 105, 116, 115, 32]⟩ : ByteArray) ++ t8)) (a' := ?_) rfl rfl (by kernel_rfl) (fun _ _ _ h => h) (.inl ⟨by rfl, fun w' => (run_cat rfl rfl rfl (of_eq_true c9))⟩) ?_ ?_
 rotate_left
 · simp only [Act.put, ptn]; rfl
 refine dr_pure 5 (some 10) HT (v := .string (((⟨#[119, 97, 105, 116, 115, 32]⟩ : ByteArray) ++ t8) ++ (⟨#[32, 108, 97, 116, 101, 32]⟩ : ByteArray))) (a' := ?_) rfl rfl (by kernel_rfl) (fun _ _ _ h => h) (.inl ⟨by rfl, fun w' => (run_cat rfl rfl rfl (of_eq_true c10))⟩) ?_ ?_
 rotate_left
 · simp only [Act.put, ptn]; rfl
 refine dr1 9 HT fun K hK => ?_
 refine go_cl HS (spec_Decimal.calls ht11.out) Tryz.func90 ?_; clear HS; (try clear F); intro wt11 HS F
 refine nrm 14 hK ⟨_, HS⟩ (fun HH => ?_); clear hK K
 refine dr_pure 10 (some 15) HT (v := .string ((((⟨#[119, 97, 105, 116, 115, 32]⟩ : ByteArray) ++ t8) ++ (⟨#[32, 108, 97, 116, 101, 32]⟩ : ByteArray)) ++ t11)) (a' := ?_) rfl rfl (by kernel_rfl) (fun _ _ _ h => h) (.inl ⟨by rfl, fun w' => (run_cat rfl rfl rfl (of_eq_true c15))⟩) ?_ ?_
 rotate_left
 · simp only [Act.put, ptn]; rfl
 refine dr_pure 11 (some 16) HT (v := .string (((((⟨#[119, 97, 105, 116, 115, 32]⟩ : ByteArray) ++ t8) ++ (⟨#[32, 108, 97, 116, 101, 32]⟩ : ByteArray)) ++ t11) ++ (⟨#[10]⟩ : ByteArray))) (a' := ?_) rfl rfl (by kernel_rfl) (fun _ _ _ h => h) (.inl ⟨by rfl, fun w' => (run_cat rfl rfl rfl (of_eq_true c21))⟩) ?_ ?_
 rotate_left
 · simp only [Act.put, ptn]; rfl
 refine drq_of [(12, some 3)] ?_
 repeat (refine drp HT ?_)
 refine drq_end ?_
 refine done_ (done_of HT.out (by kernel_rfl)) ?_
 (try clear F)
 have F := HS.boxes; simp only [bxn] at F
 go_wp2
 go_loopg [3, 4] k (fun kq v_3 v_4 w' => ∃ (x13 : ByteArray) (x14 : Int), v_3 = .string x13 ∧ v_4 = .int .i64 x14 ∧ Aside0 (spec_ShowClient.l0 kq x13 x14 a0 = some r) ∧ Aside0 (kq ≤ k) ∧ Hp noFP w w' [.box g1 [.string a0.f0, .int .i64 a0.f1, .slice Ap0 a0.f2.length cp0, .slice Ap1 a0.f3.length cp1, .slice Ap2 a0.f4.length cp2] 65])
 case atStart => exact ⟨_, _, rfl, rfl, H, ⟨Nat.le_refl _⟩, HS⟩
 case round =>
  clear HS H; (try clear F)
  obtain ⟨x13, x14, rfl, rfl, H, HKk12, HS⟩ := hrel
  have F := HS.boxes; simp only [bxn] at F
  cases gk with
  | zero => exact absurd H.out (by simp [spec_ShowClient.l0])
  | succ k12 =>
   simp only [spec_ShowClient.l0] at H
   replace H := znif H; rcases H with ⟨c16, H⟩ | ⟨c16, H⟩
   case inl =>
    obtain rfl := zsome H
    go_wp2
    go_ret
    exact HS.pk
   replace H := zgo H; obtain ⟨c17, H⟩ := H
   replace H := zgo H; obtain ⟨c18, H⟩ := H
   obtain ⟨ad19, B19_7, d19_7, rfl, e19_0, e19_1, e19_2, e19_3, e19_4, e19_5, e19_6, e19_7, e19_8, m19_7, y19_7⟩ := at_T223 gp1 x14 (of_eq_true c17) (of_eq_true c18)
   have e19_0_19 := (HS.keepc e19_0)
   have e19_1_19 := (HS.keepc e19_1)
   have e19_2_19 := (HS.keepc e19_2)
   have e19_3_19 := (HS.keepc e19_3)
   have e19_4_19 := (HS.keepc e19_4)
   have e19_5_19 := (HS.keepc e19_5)
   have e19_6_19 := (HS.keepc e19_6)
   have e19_7_19 := (HS.keepc e19_7)
   have e19_8_19 := (HS.keepc e19_8)
   replace H := zbind H; obtain ⟨t20, ht20, H⟩ := H
   replace H := zgo H; obtain ⟨c22, H⟩ := H
   go_wp2_with (first | ((with_reducible refine gd 31 rfl ?_); refine ev_cl HS (spec_ShowReply.calls ht20.out (HS.ro y19_7) m19_7) Tryz.func163 ?_; clear HS; (try clear F); intro wt20 HS F) | ((with_reducible refine gd 32 rfl ?_); refine ev_val rfl (run_cat rfl rfl rfl (of_eq_true c22)) ?_))
   go_roundg k12
   case measure => have := HKk12.out; omega
   case rel => exact ⟨_, _, rfl, rfl, H, ⟨by have := HKk12.out; omega⟩, HS.pick [0] (by decide) (by rfl)⟩
/-! ### spec_ShowWorld: function 22 -/
def spec_ShowWorld.f (k : Nat) (a0 : S69) : Option (ByteArray) := ((spec_ShowClient.f k a0.f1).bind fun t14 => (if t14.size + (⟨#[115, 101, 114, 118, 101, 114, 32]⟩ : ByteArray).size ≤ 9223372036854775807 then ((spec_l21Num.f k a0.f0.f3).bind fun t16 => (if (t14 ++ (⟨#[115, 101, 114, 118, 101, 114, 32]⟩ : ByteArray)).size + t16.size ≤ 9223372036854775807 then (if ((t14 ++ (⟨#[115, 101, 114, 118, 101, 114, 32]⟩ : ByteArray)) ++ t16).size + (⟨#[32, 107, 110, 111, 119, 115, 32]⟩ : ByteArray).size ≤ 9223372036854775807 then ((spec_Decimal.f k (a0.f0.f0.f0.length : Int)).bind fun t19 => (if (((t14 ++ (⟨#[115, 101, 114, 118, 101, 114, 32]⟩ : ByteArray)) ++ t16) ++ (⟨#[32, 107, 110, 111, 119, 115, 32]⟩ : ByteArray)).size + t19.size ≤ 9223372036854775807 then (if ((((t14 ++ (⟨#[115, 101, 114, 118, 101, 114, 32]⟩ : ByteArray)) ++ t16) ++ (⟨#[32, 107, 110, 111, 119, 115, 32]⟩ : ByteArray)) ++ t19).size + (⟨#[32, 107, 101, 101, 112, 115, 32]⟩ : ByteArray).size ≤ 9223372036854775807 then ((spec_Decimal.f k (a0.f0.f5.length : Int)).bind fun t23 => (if (((((t14 ++ (⟨#[115, 101, 114, 118, 101, 114, 32]⟩ : ByteArray)) ++ t16) ++ (⟨#[32, 107, 110, 111, 119, 115, 32]⟩ : ByteArray)) ++ t19) ++ (⟨#[32, 107, 101, 101, 112, 115, 32]⟩ : ByteArray)).size + t23.size ≤ 9223372036854775807 then (if ((((((t14 ++ (⟨#[115, 101, 114, 118, 101, 114, 32]⟩ : ByteArray)) ++ t16) ++ (⟨#[32, 107, 110, 111, 119, 115, 32]⟩ : ByteArray)) ++ t19) ++ (⟨#[32, 107, 101, 101, 112, 115, 32]⟩ : ByteArray)) ++ t23).size + (⟨#[10]⟩ : ByteArray).size ≤ 9223372036854775807 then (some (((((((t14 ++ (⟨#[115, 101, 114, 118, 101, 114, 32]⟩ : ByteArray)) ++ t16) ++ (⟨#[32, 107, 110, 111, 119, 115, 32]⟩ : ByteArray)) ++ t19) ++ (⟨#[32, 107, 101, 101, 112, 115, 32]⟩ : ByteArray)) ++ t23) ++ (⟨#[10]⟩ : ByteArray))) else none) else none)) else none) else none)) else none) else none)) else none))
def spec_ShowWorld.T1 : Bool × List (List Nat × List Nat) := (true, [([], []), ([0], [0]), ([1], [1]), ([2], [2]), ([], []), ([4], [4]), ([5], [5]), ([6, 2], [6]), ([3, 7], [3, 7]), ([8], [8]), ([], []), ([10], [10]), ([11], [11]), ([12], [12]), ([13], [13]), ([14, 7], [14]), ([9, 15], [9, 15]), ([16], [16]), ([], []), ([18], [18]), ([19], [19]), ([20], [20]), ([21, 15], [21]), ([17, 22], [17, 22]), ([23], [23]), ([24, 22, 0, 1, 2, 3, 4, 5, 6, 7, 8, 9, 10, 11, 12, 13, 14, 15, 16, 17, 18, 19, 20, 21, 22, 23, 24], [24])])
theorem spec_ShowWorld.tT1 : rtab .any (opsOf Tryz.f22 1) = spec_ShowWorld.T1 := by kernel_rfl
set_option maxHeartbeats 16000000 in
theorem spec_ShowWorld.calls {k : Nat} {a0 : S69} {Ap0 : Option Addr} {np0 cp0 : Nat} {Ap1 : Option Addr} {np1 cp1 : Nat} {Ap2 : Option Addr} {np2 cp2 : Nat} {Ap3 : Option Addr} {np3 cp3 : Nat} {Ap4 : Option Addr} {np4 cp4 : Nat} {Ap5 : Option Addr} {np5 cp5 : Nat} {Ap6 : Option Addr} {np6 cp6 : Nat} {Ap7 : Option Addr} {np7 cp7 : Nat} {Ap8 : Option Addr} {np8 cp8 : Nat} {Ap9 : Option Addr} {np9 cp9 : Nat} {Ap10 : Option Addr} {np10 cp10 : Nat} {Ap11 : Option Addr} {np11 cp11 : Nat} {Ap12 : Option Addr} {np12 cp12 : Nat} {Ap13 : Option Addr} {np13 cp13 : Nat} {r : ByteArray} {w : World} (h : spec_ShowWorld.f k a0 = some r) (gp0 : k91.C w Ap0 np0 a0.f0.f0.f0) (lp0 : np0 ≤ cp0) (gp1 : k81.C w Ap1 np1 a0.f0.f0.f1) (lp1 : np1 ≤ cp1) (gp2 : k115.C w Ap2 np2 a0.f0.f0.f2) (lp2 : np2 ≤ cp2) (gp3 : k202.C w Ap3 np3 a0.f0.f1) (lp3 : np3 ≤ cp3) (gp4 : k205.C w Ap4 np4 a0.f0.f5) (lp4 : np4 ≤ cp4) (gp5 : k274.C w Ap5 np5 a0.f1.f2) (lp5 : np5 ≤ cp5) (gp6 : k223.C w Ap6 np6 a0.f1.f3) (lp6 : np6 ≤ cp6) (gp7 : (Kd.int .i64).C w Ap7 np7 a0.f1.f4) (lp7 : np7 ≤ cp7) (gp8 : k91.C w Ap8 np8 a0.f2) (lp8 : np8 ≤ cp8) (gp9 : k228.C w Ap9 np9 a0.f3) (lp9 : np9 ≤ cp9) (gp10 : (Kd.int .i64).C w Ap10 np10 a0.f4) (lp10 : np10 ≤ cp10) (gp11 : k230.C w Ap11 np11 a0.f5) (lp11 : np11 ≤ cp11) (gp12 : Kd.string.C w Ap12 np12 a0.f6) (lp12 : np12 ≤ cp12) (gp13 : Kd.string.C w Ap13 np13 a0.f7) (lp13 : np13 ≤ cp13) :
    Calls Tryz.prog 22 #[.agg #[.slice Ap0 np0 cp0, .slice Ap1 np1 cp1, .slice Ap2 np2 cp2, .slice Ap3 np3 cp3, .int .i64 a0.f0.f2, .int .i64 a0.f0.f3, .int .i64 a0.f0.f4, .slice Ap4 np4 cp4, .string a0.f1.f0, .int .i64 a0.f1.f1, .slice Ap5 np5 cp5, .slice Ap6 np6 cp6, .slice Ap7 np7 cp7, .slice Ap8 np8 cp8, .slice Ap9 np9 cp9, .slice Ap10 np10 cp10, .slice Ap11 np11 cp11, .slice Ap12 np12 cp12, .slice Ap13 np13 cp13]] w (fun e w' => e = .returned (.string r) ∧ Hp noFP w w' []) := by
 obtain rfl := C_len gp0
 obtain rfl := C_len gp1
 obtain rfl := C_len gp2
 obtain rfl := C_len gp3
 obtain rfl := C_len gp4
 obtain rfl := C_len gp5
 obtain rfl := C_len gp6
 obtain rfl := C_len gp7
 obtain rfl := C_len gp8
 obtain rfl := C_len gp9
 obtain rfl := C_len gp10
 obtain rfl := C_len gp11
 obtain rfl := C_len gp12
 obtain rfl := C_len gp13
 have HS := Hp.start w
 have H := Aside0.mk h
 clear h
 unfold spec_ShowWorld.f at H
 go_enter Tryz.func22, Tryz.ntmps22
 go_wp2_with (first | ((with_reducible refine gd 1 rfl ?_); refine ev_bx HS ?_; clear HS; (try clear F); intro g1 w1 HS F))
 replace H := zbind H; obtain ⟨t14, ht14, H⟩ := H
 replace H := zgo H; obtain ⟨c15, H⟩ := H
 replace H := zbind H; obtain ⟨t16, ht16, H⟩ := H
 replace H := zgo H; obtain ⟨c17, H⟩ := H
 replace H := zgo H; obtain ⟨c18, H⟩ := H
 replace H := zbind H; obtain ⟨t19, ht19, H⟩ := H
 replace H := zgo H; obtain ⟨c20, H⟩ := H
 replace H := zgo H; obtain ⟨c21, H⟩ := H
 replace H := zbind H; obtain ⟨t23, ht23, H⟩ := H
 replace H := zgo H; obtain ⟨c24, H⟩ := H
 replace H := zgo H; obtain ⟨c25, H⟩ := H
 refine dr_start [] HS #[false, false, false, false, false, false, false, false, false, false, false, false, false, false, false, false, false, false, false, false, false, false, false, false, false, false] (by kernel_rfl) rfl rfl spec_ShowWorld.tT1 (fun w4 HT HS HH => ?_)
 (try clear F)
 refine drq_of [(0, some 3), (1, some 4), (4, some 7), (5, some 8), (6, some 9), (10, some 13), (11, some 14), (12, some 15), (13, some 16), (14, some 17), (18, some 21), (19, some 22), (20, some 23), (21, some 24)] ?_
 repeat (first | refine drp HT ?_ | refine drt HT HH ?_)
 refine drq_end ?_
 refine dr1 2 HT fun K hK => ?_
 refine go_cl HS (spec_ShowClient.calls ht14.out (HS.ro gp5) lp5 (HS.ro gp6) lp6 (HS.ro gp7) lp7) Tryz.func88 ?_; clear HS; (try clear F); intro wt14 HS F
 refine nrm 5 hK ⟨_, HS⟩ (fun HH => ?_); clear hK K
 refine dr_pure 3 (some 6) HT (v := .string (t14 ++ (⟨#[115, 101, 114, 118, 101, 114, 32]⟩ : ByteArray))) (a' := ?_) rfl rfl (by kernel_rfl) (fun _ _ _ h => h) (.inl ⟨by rfl, fun w' => (run_cat rfl rfl rfl (of_eq_true c15))⟩) ?_ ?_
 rotate_left
 · simp only [Act.put, ptn]; rfl
 refine dr1 7 HT fun K hK => ?_
 refine go_cl HS (spec_l21Num.calls ht16.out) Tryz.func89 ?_; clear HS; (try clear F); intro wt16 HS F
 refine nrm 10 hK ⟨_, HS⟩ (fun HH => ?_); clear hK K
 refine dr_pure 8 (some 11) HT (v := .string ((t14 ++ (⟨#[115, 101, 114, 118, 101, 114, 32]⟩ : ByteArray)) ++ t16)) (a' := ?_) rfl rfl (by kernel_rfl) (fun _ _ _ h => h) (.inl ⟨by rfl, fun w' => (run_cat rfl rfl rfl (of_eq_true c17))⟩) ?_ ?_
 rotate_left
 · simp only [Act.put, ptn]; rfl
 refine dr_pure 9 (some 12) HT (v := .string (((t14 ++ (⟨#[115, 101, 114, 118, 101, 114, 32]⟩ : ByteArray)) ++ t16) ++ (⟨#[32, 107, 110, 111, 119, 115, 32]⟩ : ByteArray))) (a' := ?_) rfl rfl (by kernel_rfl) (fun _ _ _ h => h) (.inl ⟨by rfl, fun w' => (run_cat rfl rfl rfl (of_eq_true c18))⟩) ?_ ?_
 rotate_left
 · simp only [Act.put, ptn]; rfl
 refine dr1 15 HT fun K hK => ?_
 refine go_cl HS (spec_Decimal.calls ht19.out) Tryz.func90 ?_; clear HS; (try clear F); intro wt19 HS F
 refine nrm 18 hK ⟨_, HS⟩ (fun HH => ?_); clear hK K
 refine dr_pure 16 (some 19) HT (v := .string ((((t14 ++ (⟨#[115, 101, 114, 118, 101, 114, 32]⟩ : ByteArray)) ++ t16) ++ (⟨#[32, 107, 110, 111, 119, 115, 32]⟩ : ByteArray)) ++ t19)) (a' := ?_) rfl rfl (by kernel_rfl) (fun _ _ _ h => h) (.inl ⟨by rfl, fun w' => (run_cat rfl rfl rfl (of_eq_true c20))⟩) ?_ ?_
 rotate_left
 · simp only [Act.put, ptn]; rfl
 refine dr_pure 17 (some 20) HT (v := .string (((((t14 ++ (⟨#[115, 101, 114, 118, 101, 114, 32]⟩ : ByteArray)) ++ t16) ++ (⟨#[32, 107, 110, 111, 119, 115, 32]⟩ : ByteArray)) ++ t19) ++ (⟨#[32, 107, 101, 101, 112, 115, 32]⟩ : ByteArray))) (a' := ?_) rfl rfl (by kernel_rfl) (fun _ _ _ h => h) (.inl ⟨by rfl, fun w' => (run_cat rfl rfl rfl (of_eq_true c21))⟩) ?_ ?_
 rotate_left
 · simp only [Act.put, ptn]; rfl
 refine dr1 22 HT fun K hK => ?_
 refine go_cl HS (spec_Decimal.calls ht23.out) Tryz.func90 ?_; clear HS; (try clear F); intro wt23 HS F
 refine nrm 25 hK ⟨_, HS⟩ (fun HH => ?_); clear hK K
 refine dr_pure 23 (some 26) HT (v := .string ((((((t14 ++ (⟨#[115, 101, 114, 118, 101, 114, 32]⟩ : ByteArray)) ++ t16) ++ (⟨#[32, 107, 110, 111, 119, 115, 32]⟩ : ByteArray)) ++ t19) ++ (⟨#[32, 107, 101, 101, 112, 115, 32]⟩ : ByteArray)) ++ t23)) (a' := ?_) rfl rfl (by kernel_rfl) (fun _ _ _ h => h) (.inl ⟨by rfl, fun w' => (run_cat rfl rfl rfl (of_eq_true c24))⟩) ?_ ?_
 rotate_left
 · simp only [Act.put, ptn]; rfl
 refine dr_pure 24 (some 27) HT (v := .string (((((((t14 ++ (⟨#[115, 101, 114, 118, 101, 114, 32]⟩ : ByteArray)) ++ t16) ++ (⟨#[32, 107, 110, 111, 119, 115, 32]⟩ : ByteArray)) ++ t19) ++ (⟨#[32, 107, 101, 101, 112, 115, 32]⟩ : ByteArray)) ++ t23) ++ (⟨#[10]⟩ : ByteArray))) (a' := ?_) rfl rfl (by kernel_rfl) (fun _ _ _ h => h) (.inl ⟨by rfl, fun w' => (run_cat rfl rfl rfl (of_eq_true c25))⟩) ?_ ?_
 rotate_left
 · simp only [Act.put, ptn]; rfl
 refine drq_of [(25, some 2)] ?_
 repeat (refine drp HT ?_)
 refine drq_end ?_
 refine done_ (done_of HT.out (by kernel_rfl)) ?_
 (try clear F)
 have F := HS.boxes; simp only [bxn] at F
 obtain rfl := zsome H
 go_wp2
 go_ret
 exact HS.pk
/-! ### laws_toIntS: function 93 -/
def laws_toIntS.l0 : Nat → (List Int) → Int → (List Int) → Option ((List Int))
  | 0, _, _, _ => none
  | k + 1, l18, x20, a0 => (if x20 < (a0.length : Int) then (if 0 ≤ x20 then (if x20 < (a0.length : Int) then (laws_toIntS.l0 k (l18.set (x20).toNat (rd a0 x20)) (wrap64 (x20 + 1)) a0) else none) else none) else (some l18))
def laws_toIntS.f (k : Nat) (a0 : (List Int)) : Option ((List Int)) := (if 0 ≤ (a0.length : Int) then (if ((a0.length : Int)).toNat ≤ 35184372088832 then (laws_toIntS.l0 k (List.replicate a0.length (0 : Int)) 0 a0) else none) else none)
set_option maxHeartbeats 16000000 in
theorem laws_toIntS.calls {k : Nat} {a0 : (List Int)} {Ap0 : Option Addr} {np0 cp0 : Nat} {r : (List Int)} {w : World} (h : laws_toIntS.f k a0 = some r) (gp0 : (Kd.int .i64).C w Ap0 np0 a0) (lp0 : np0 ≤ cp0) :
    Calls Tryz.prog 93 #[.slice Ap0 np0 cp0] w (fun e w' => ∃ v0_ : Value, e = .returned (v0_) ∧ Hp noFP w w' [.own (Zd.slice 3 (Zd.int .i64)) r [v0_]]) := by
 obtain rfl := C_len gp0
 have HS := Hp.start w
 have H := Aside0.mk h
 clear h
 unfold laws_toIntS.f at H
 go_enter Tryz.func93, Tryz.ntmps93
 replace H := zgo H; obtain ⟨c1, H⟩ := H
 replace H := zgo H; obtain ⟨c2, H⟩ := H
 go_wp2_with (first | ((with_reducible refine gd 7 rfl ?_); refine ev_make rfl (Zd.int .i64) (0 : Int) HS rfl (a0.length : Int) rfl rfl Tryz.underlying52 info3 rfl (by decide) (by decide) (fun _ _ => rfl) (of_eq_true c1) (by have := of_eq_true c2; omega) ?_; clear HS; (try clear F); intro v3 w3 HS; obtain ⟨B3, d3, rfl, m3⟩ := HS.formn a0.length 0 rfl (by first | rfl | simp); (try simp only [hpn, hpm] at HS)))
 go_loopg [4] k (fun kq v_4 w' => ∃ (l18 : List Int) (x20 : Int), v_4 = .int .i64 x20 ∧ Aside0 (laws_toIntS.l0 kq l18 x20 a0 = some r) ∧ Aside0 (kq ≤ k) ∧ Hp noFP w w' [.own (Zd.slice 3 (Zd.int .i64)) l18 [.slice B3 a0.length d3]])
 case atStart => exact ⟨_, _, rfl, H, ⟨Nat.le_refl _⟩, HS⟩
 case round =>
  clear HS H; (try clear F)
  obtain ⟨l18, x20, rfl, H, HKk17, HS⟩ := hrel
  cases gk with
  | zero => exact absurd H.out (by simp [laws_toIntS.l0])
  | succ k17 =>
   simp only [laws_toIntS.l0] at H
   replace H := znif H; rcases H with ⟨c22, H⟩ | ⟨c22, H⟩
   case inl =>
    obtain rfl := zsome H
    go_wp2
    exact bodyPost_ret (results_single rfl (.tmp .nil)) rfl ⟨_, rfl, HS.pick [0] (by decide) (by rfl)⟩
   replace H := zgo H; obtain ⟨c23, H⟩ := H
   replace H := zgo H; obtain ⟨c24, H⟩ := H
   obtain ⟨ad25, rfl, e25_0⟩ := Kd.at_int gp0 x20 (of_eq_true c23) (of_eq_true c24)
   have e25_0_25 := (HS.keepc e25_0)
   obtain ⟨ad26, rfl, e26_0⟩ := Kd.at_int (HS.rd 0 rfl) x20 (of_eq_true c23) (of_eq_true c24)
   go_wp2_with (first | ((with_reducible refine gate_store (p := 20) rfl ?_); refine ev_set rfl (Zd.int .i64) 0 [] x20 (rd a0 x20) HS (seg := [.int .i64 (rd a0 x20)]) rfl (by decide) rfl rfl rfl (by first | rfl | exact (Nat.mul_one _).symm) rfl rfl (by kernel_rfl) (by simp [Value.oneCell']) ⟨of_eq_true c23, of_eq_true c24⟩ rfl (made_flat (fun _ => rfl)) ?_; clear HS; (try clear F); intro w27 HS; (try simp only [hpn, hpm] at HS)))
   go_roundg k17
   case measure => have := HKk17.out; omega
   case rel => exact ⟨_, _, rfl, H, ⟨by have := HKk17.out; omega⟩, HS.pick [0] (by decide) (by rfl)⟩
/-! ### laws_toStringS: function 95 -/
def laws_toStringS.l0 : Nat → (List ByteArray) → Int → (List ByteArray) → Option ((List ByteArray))
  | 0, _, _, _ => none
  | k + 1, l18, x20, a0 => (if x20 < (a0.length : Int) then (if 0 ≤ x20 then (if x20 < (a0.length : Int) then (laws_toStringS.l0 k (l18.set (x20).toNat (rdOf ByteArray.empty a0 x20)) (wrap64 (x20 + 1)) a0) else none) else none) else (some l18))
def laws_toStringS.f (k : Nat) (a0 : (List ByteArray)) : Option ((List ByteArray)) := (if 0 ≤ (a0.length : Int) then (if ((a0.length : Int)).toNat ≤ 17592186044416 then (laws_toStringS.l0 k (List.replicate a0.length (⟨#[]⟩ : ByteArray)) 0 a0) else none) else none)
set_option maxHeartbeats 16000000 in
theorem laws_toStringS.calls {k : Nat} {a0 : (List ByteArray)} {Ap0 : Option Addr} {np0 cp0 : Nat} {r : (List ByteArray)} {w : World} (h : laws_toStringS.f k a0 = some r) (gp0 : Kd.string.C w Ap0 np0 a0) (lp0 : np0 ≤ cp0) :
    Calls Tryz.prog 95 #[.slice Ap0 np0 cp0] w (fun e w' => ∃ v0_ : Value, e = .returned (v0_) ∧ Hp noFP w w' [.own (Zd.slice 9 Zd.string) r [v0_]]) := by
 obtain rfl := C_len gp0
 have HS := Hp.start w
 have H := Aside0.mk h
 clear h
 unfold laws_toStringS.f at H
 go_enter Tryz.func95, Tryz.ntmps95
 replace H := zgo H; obtain ⟨c1, H⟩ := H
 replace H := zgo H; obtain ⟨c2, H⟩ := H
 go_wp2_with (first | ((with_reducible refine gd 7 rfl ?_); refine ev_make rfl Zd.string (⟨#[]⟩ : ByteArray) HS rfl (a0.length : Int) rfl rfl Tryz.underlying57 info9 rfl (by decide) (by decide) (fun _ _ => rfl) (of_eq_true c1) (by have := of_eq_true c2; omega) ?_; clear HS; (try clear F); intro v3 w3 HS; obtain ⟨B3, d3, rfl, m3⟩ := HS.formn a0.length 0 rfl (by first | rfl | simp); (try simp only [hpn, hpm] at HS)))
 go_loopg [4] k (fun kq v_4 w' => ∃ (l18 : List ByteArray) (x20 : Int), v_4 = .int .i64 x20 ∧ Aside0 (laws_toStringS.l0 kq l18 x20 a0 = some r) ∧ Aside0 (kq ≤ k) ∧ Hp noFP w w' [.own (Zd.slice 9 Zd.string) l18 [.slice B3 a0.length d3]])
 case atStart => exact ⟨_, _, rfl, H, ⟨Nat.le_refl _⟩, HS⟩
 case round =>
  clear HS H; (try clear F)
  obtain ⟨l18, x20, rfl, H, HKk17, HS⟩ := hrel
  cases gk with
  | zero => exact absurd H.out (by simp [laws_toStringS.l0])
  | succ k17 =>
   simp only [laws_toStringS.l0] at H
   replace H := znif H; rcases H with ⟨c22, H⟩ | ⟨c22, H⟩
   case inl =>
    obtain rfl := zsome H
    go_wp2
    exact bodyPost_ret (results_single rfl (.tmp .nil)) rfl ⟨_, rfl, HS.pick [0] (by decide) (by rfl)⟩
   replace H := zgo H; obtain ⟨c23, H⟩ := H
   replace H := zgo H; obtain ⟨c24, H⟩ := H
   obtain ⟨ad25, rfl, e25_0⟩ := Kd.at_string gp0 x20 (of_eq_true c23) (of_eq_true c24)
   have e25_0_25 := (HS.keepc e25_0)
   obtain ⟨ad26, rfl, e26_0⟩ := Kd.at_string (HS.rd 0 rfl) x20 (of_eq_true c23) (of_eq_true c24)
   go_wp2_with (first | ((with_reducible refine gate_store (p := 20) rfl ?_); refine ev_set rfl Zd.string 0 [] x20 (rdOf ByteArray.empty a0 x20) HS (seg := [.string (rdOf ByteArray.empty a0 x20)]) rfl (by decide) rfl rfl rfl (by first | rfl | exact (Nat.mul_one _).symm) rfl rfl (by kernel_rfl) (by simp [Value.oneCell']) ⟨of_eq_true c23, of_eq_true c24⟩ rfl (made_flat (fun _ => rfl)) ?_; clear HS; (try clear F); intro w27 HS; (try simp only [hpn, hpm] at HS)))
   go_roundg k17
   case measure => have := HKk17.out; omega
   case rel => exact ⟨_, _, rfl, H, ⟨by have := HKk17.out; omega⟩, HS.pick [0] (by decide) (by rfl)⟩
/-! ### laws_toCert: function 36 -/
def laws_toCert.f (k : Nat) (a0 : S88) : Option (S91) := ((laws_toIntS.f k a0.f9).bind fun t25 => ((laws_toStringS.f k a0.f10).bind fun t30 => ((laws_toStringS.f k a0.f11).bind fun t35 => (some (⟨a0.f0, a0.f1, a0.f2, a0.f3, a0.f4, a0.f5, a0.f6, a0.f7, a0.f8, t25, t30, t35, a0.f12⟩ : S91)))))
set_option maxHeartbeats 16000000 in
theorem laws_toCert.calls {k : Nat} {a0 : S88} {Ap0 : Option Addr} {np0 cp0 : Nat} {Ap1 : Option Addr} {np1 cp1 : Nat} {Ap2 : Option Addr} {np2 cp2 : Nat} {r : S91} {w : World} (h : laws_toCert.f k a0 = some r) (gp0 : (Kd.int .i64).C w Ap0 np0 a0.f9) (lp0 : np0 ≤ cp0) (gp1 : Kd.string.C w Ap1 np1 a0.f10) (lp1 : np1 ≤ cp1) (gp2 : Kd.string.C w Ap2 np2 a0.f11) (lp2 : np2 ≤ cp2) :
    Calls Tryz.prog 36 #[.agg #[.int .i64 a0.f0, .string a0.f1, .string a0.f2, .int .i64 a0.f3, .int .i64 a0.f4, .string a0.f5, .bool a0.f6, .int .i64 a0.f7, .int .i64 a0.f8, .slice Ap0 np0 cp0, .slice Ap1 np1 cp1, .slice Ap2 np2 cp2, .string a0.f12]] w (fun e w' => ∃ v0_ v1_ v2_ : Value, e = .returned (.agg #[.int .i64 r.f0, .string r.f1, .string r.f2, .int .i64 r.f3, .int .i64 r.f4, .string r.f5, .bool r.f6, .int .i64 r.f7, .int .i64 r.f8, v0_, v1_, v2_, .string r.f12]) ∧ Hp noFP w w' [.own (Zd.slice 3 (Zd.int .i64)) r.f9 [v0_], .own (Zd.slice 9 Zd.string) r.f10 [v1_], .own (Zd.slice 9 Zd.string) r.f11 [v2_]]) := by
 obtain rfl := C_len gp0
 obtain rfl := C_len gp1
 obtain rfl := C_len gp2
 have HS := Hp.start w
 have H := Aside0.mk h
 clear h
 unfold laws_toCert.f at H
 go_enter Tryz.func36, Tryz.ntmps36
 replace H := zbind H; obtain ⟨t25, ht25, H⟩ := H
 replace H := zbind H; obtain ⟨t30, ht30, H⟩ := H
 replace H := zbind H; obtain ⟨t35, ht35, H⟩ := H
 obtain rfl := zsome H
 go_wp2_with (first | ((with_reducible refine gd 1 rfl ?_); refine ev_bx HS ?_; clear HS; (try clear F); intro g1 w1 HS F) | ((with_reducible refine gd 2 rfl ?_); refine ev_bx HS ?_; clear HS; (try clear F); intro g2 w2 HS F) | ((with_reducible refine gd 3 rfl ?_); refine ev_bx HS ?_; clear HS; (try clear F); intro g3 w3 HS F) | ((with_reducible refine gate_store (p := 6) rfl ?_); refine ev_st 2 0 HS (seg := [.int .i64 a0.f0]) ?_; clear HS; (try clear F); intro w7 HS F) | ((with_reducible refine gate_store (p := 9) rfl ?_); refine ev_st 2 1 HS (seg := [.string a0.f1]) ?_; clear HS; (try clear F); intro w9 HS F) | ((with_reducible refine gate_store (p := 12) rfl ?_); refine ev_st 2 2 HS (seg := [.string a0.f2]) ?_; clear HS; (try clear F); intro w11 HS F) | ((with_reducible refine gate_store (p := 15) rfl ?_); refine ev_st 2 3 HS (seg := [.int .i64 a0.f3]) ?_; clear HS; (try clear F); intro w13 HS F) | ((with_reducible refine gate_store (p := 18) rfl ?_); refine ev_st 2 4 HS (seg := [.int .i64 a0.f4]) ?_; clear HS; (try clear F); intro w15 HS F) | ((with_reducible refine gate_store (p := 21) rfl ?_); refine ev_st 2 5 HS (seg := [.string a0.f5]) ?_; clear HS; (try clear F); intro w17 HS F) | ((with_reducible refine gate_store (p := 24) rfl ?_); refine ev_st 2 6 HS (seg := [.bool a0.f6]) ?_; clear HS; (try clear F); intro w19 HS F) | ((with_reducible refine gate_store (p := 27) rfl ?_); refine ev_st 2 7 HS (seg := [.int .i64 a0.f7]) ?_; clear HS; (try clear F); intro w21 HS F) | ((with_reducible refine gate_store (p := 30) rfl ?_); refine ev_st 2 8 HS (seg := [.int .i64 a0.f8]) ?_; clear HS; (try clear F); intro w23 HS F) | ((with_reducible refine gd 33 rfl ?_); refine ev_cl1 HS (laws_toIntS.calls ht25.out (HS.ro gp0) lp0) Tryz.func93 ?_; clear HS; (try clear F); intro v26 wt25 HS F; obtain ⟨B26, d26, rfl, m26⟩ := HS.form 3 rfl) | ((with_reducible refine gate_store (p := 34) rfl ?_); refine ev_st 2 9 HS (seg := [.slice B26 t25.length d26]) ?_; clear HS; (try clear F); intro w28 HS F) | ((with_reducible refine gd 37 rfl ?_); refine ev_cl1 HS (laws_toStringS.calls ht30.out (HS.ro gp1) lp1) Tryz.func95 ?_; clear HS; (try clear F); intro v31 wt30 HS F; obtain ⟨B31, d31, rfl, m31⟩ := HS.form 4 rfl) | ((with_reducible refine gate_store (p := 38) rfl ?_); refine ev_st 2 10 HS (seg := [.slice B31 t30.length d31]) ?_; clear HS; (try clear F); intro w33 HS F) | ((with_reducible refine gd 41 rfl ?_); refine ev_cl1 HS (laws_toStringS.calls ht35.out (HS.ro gp2) lp2) Tryz.func95 ?_; clear HS; (try clear F); intro v36 wt35 HS F; obtain ⟨B36, d36, rfl, m36⟩ := HS.form 5 rfl) | ((with_reducible refine gate_store (p := 42) rfl ?_); refine ev_st 2 11 HS (seg := [.slice B36 t35.length d36]) ?_; clear HS; (try clear F); intro w38 HS F) | ((with_reducible refine gate_store (p := 45) rfl ?_); refine ev_st 2 12 HS (seg := [.string a0.f12]) ?_; clear HS; (try clear F); intro w40 HS F) | ((with_reducible refine gate_store (p := 2) rfl ?_); refine ev_st 1 0 HS (seg := [.int .i64 a0.f0, .string a0.f1, .string a0.f2, .int .i64 a0.f3, .int .i64 a0.f4, .string a0.f5, .bool a0.f6, .int .i64 a0.f7, .int .i64 a0.f8, .slice B26 t25.length d26, .slice B31 t30.length d31, .slice B36 t35.length d36, .string a0.f12]) ?_; clear HS; (try clear F); intro w42 HS F))
 exact bodyPost_ret (results_single rfl (.cell _ _ _ _ _ rfl (HS.boxAt (i := 1) rfl) Tryz.underlying91 rfl (by kernel_rfl) .nil)) rfl ⟨_, _, _, rfl, HS.pick [3, 4, 5] (by decide) (by rfl)⟩
end Go.Proofs.YtacocpknielofaaGreatDoor.F
