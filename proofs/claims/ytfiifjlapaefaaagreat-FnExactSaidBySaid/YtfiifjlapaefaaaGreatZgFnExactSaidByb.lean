/- Functions of the program and of the law, and that their calls do what is written here. -/
import Derived.Test.YtfiifjlapaefaaaGreatZgFnExactSaidBya
namespace Go.Proofs.YtfiifjlapaefaaaGreat.F
open Go.RowKit Go.Proofs.YtfiifjlapaefaaaGreatW.PrintWords Go.Proofs.YtfiifjlapaefaaaGreatW.PrintLast Go.Proofs.YtfiifjlapaefaaaGreatW.PrintMore Go.Proofs.YtfiifjlapaefaaaGreat.Z
attribute [local go_sem] max2_int min2_int max_two min_two max_three min_three max_four min_four
set_option linter.unusedVariables false
set_option linter.unusedSimpArgs false
set_option maxRecDepth 100000
/-! ### laws_szKeptS: function 36 -/
def laws_szKeptS.l0 : Nat → Int → Int → (List S143) → Option (Int)
  | 0, _, _, _ => none
  | k + 1, x12, x13, a0 => (if x13 < (a0.length : Int) then (if 0 ≤ x13 then (if x13 < (a0.length : Int) then ((laws_szKept.f (rd_T143 a0 x13) x12).bind fun t19 => (if t19 < 0 then (some (-1)) else (laws_szKeptS.l0 k t19 (wrap64 (x13 + 1)) a0))) else none) else none) else (some x12))
def laws_szKeptS.f (k : Nat) (a0 : (List S143)) (a1 : Int) : Option (Int) := (if (wrap64 (a1 - (a0.length : Int))) < 0 then (some (-1)) else (laws_szKeptS.l0 k (wrap64 (a1 - (a0.length : Int))) 0 a0))
set_option maxHeartbeats 16000000 in
theorem laws_szKeptS.calls {k : Nat} {a0 : (List S143)} {a1 : Int} {Ap0 : Option Addr} {np0 cp0 : Nat} {r : Int} {w : World} (h : laws_szKeptS.f k a0 a1 = some r) (gp0 : k143.C w Ap0 np0 a0) (lp0 : np0 ≤ cp0) :
    Calls Tryz.prog 36 #[.slice Ap0 np0 cp0, .int .i64 a1] w (fun e w' => e = .returned (.int .i64 r) ∧ Hp noFP w w' []) := by
 obtain rfl := C_len gp0
 have HS := Hp.start w
 have H := Aside0.mk h
 clear h
 unfold laws_szKeptS.f at H
 go_enter Tryz.func36, Tryz.ntmps36
 replace H := zif H; rcases H with ⟨c1, H⟩ | ⟨c1, H⟩
 case inl =>
  obtain rfl := zsome H
  go_wp2
  go_ret
  exact HS.pk
 go_wp2
 go_loopg [1, 5] k (fun kq v_1 v_5 w' => ∃ (x12 : Int) (x13 : Int), v_1 = .int .i64 x12 ∧ v_5 = .int .i64 x13 ∧ Aside0 (laws_szKeptS.l0 kq x12 x13 a0 = some r) ∧ Aside0 (kq ≤ k) ∧ Hp noFP w w' [])
 case atStart => exact ⟨_, _, rfl, rfl, H, ⟨Nat.le_refl _⟩, HS⟩
 case round =>
  clear HS H; (try clear F)
  obtain ⟨x12, x13, rfl, rfl, H, HKk11, HS⟩ := hrel
  cases gk with
  | zero => exact absurd H.out (by simp [laws_szKeptS.l0])
  | succ k11 =>
   simp only [laws_szKeptS.l0] at H
   replace H := znif H; rcases H with ⟨c15, H⟩ | ⟨c15, H⟩
   case inl =>
    obtain rfl := zsome H
    go_wp2
    go_ret
    exact HS.pk
   replace H := zgo H; obtain ⟨c16, H⟩ := H
   replace H := zgo H; obtain ⟨c17, H⟩ := H
   obtain ⟨ad18, rfl, e18_0, e18_1, e18_2⟩ := at_T143 gp0 x13 (of_eq_true c16) (of_eq_true c17)
   have e18_0_18 := (HS.keepc e18_0)
   have e18_1_18 := (HS.keepc e18_1)
   have e18_2_18 := (HS.keepc e18_2)
   replace H := zbind H; obtain ⟨t19, ht19, H⟩ := H
   go_upto_if 25 with (first | ((with_reducible refine gd 23 rfl ?_); refine ev_cl HS (laws_szKept.calls ht19.out) Tryz.func71 ?_; clear HS; (try clear F); intro wt19 HS F))
   replace H := zif H; rcases H with ⟨c21, H⟩ | ⟨c21, H⟩
   case inl =>
    (try simp only [c21, dcn])
    obtain rfl := zsome H
    go_wp2
    go_ret
    exact HS.pk
   (try simp only [c21, dcn])
   go_wp2
   go_roundg k11
   case measure => have := HKk11.out; omega
   case rel => exact ⟨_, _, rfl, rfl, H, ⟨by have := HKk11.out; omega⟩, HS.pick [] (by decide) (by rfl)⟩
/-! ### laws_szServer: function 9 -/
def laws_szServer.f (k : Nat) (a0 : S30) (a1 : Int) : Option (Int) := ((laws_szStore.f k a0.f0 a1).bind fun t3 => (if t3 < 0 then (some (-1)) else ((laws_szPlanS.f k a0.f1 t3).bind fun t6 => (if t6 < 0 then (some (-1)) else ((laws_szKeptS.f k a0.f5 t6).bind fun t9 => (if t9 < 0 then (some (-1)) else (some t9)))))))
set_option maxHeartbeats 16000000 in
theorem laws_szServer.calls {k : Nat} {a0 : S30} {a1 : Int} {Ap0 : Option Addr} {np0 cp0 : Nat} {Ap1 : Option Addr} {np1 cp1 : Nat} {Ap2 : Option Addr} {np2 cp2 : Nat} {Ap3 : Option Addr} {np3 cp3 : Nat} {Ap4 : Option Addr} {np4 cp4 : Nat} {r : Int} {w : World} (h : laws_szServer.f k a0 a1 = some r) (gp0 : k99.C w Ap0 np0 a0.f0.f0) (lp0 : np0 ≤ cp0) (gp1 : k187.C w Ap1 np1 a0.f0.f1) (lp1 : np1 ≤ cp1) (gp2 : k190.C w Ap2 np2 a0.f0.f2) (lp2 : np2 ≤ cp2) (gp3 : k140.C w Ap3 np3 a0.f1) (lp3 : np3 ≤ cp3) (gp4 : k143.C w Ap4 np4 a0.f5) (lp4 : np4 ≤ cp4) :
    Calls Tryz.prog 9 #[.agg #[.slice Ap0 np0 cp0, .slice Ap1 np1 cp1, .slice Ap2 np2 cp2, .slice Ap3 np3 cp3, .int .i64 a0.f2, .int .i64 a0.f3, .int .i64 a0.f4, .slice Ap4 np4 cp4], .int .i64 a1] w (fun e w' => e = .returned (.int .i64 r) ∧ Hp noFP w w' []) := by
 obtain rfl := C_len gp0
 obtain rfl := C_len gp1
 obtain rfl := C_len gp2
 obtain rfl := C_len gp3
 obtain rfl := C_len gp4
 have HS := Hp.start w
 have H := Aside0.mk h
 clear h
 unfold laws_szServer.f at H
 go_enter Tryz.func9, Tryz.ntmps9
 replace H := zbind H; obtain ⟨t3, ht3, H⟩ := H
 go_upto_if 10 with (first | ((with_reducible refine gd 2 rfl ?_); refine ev_bx HS ?_; clear HS; (try clear F); intro g2 w2 HS F) | ((with_reducible refine gd 8 rfl ?_); refine ev_cl HS (laws_szStore.calls ht3.out (HS.ro gp0) lp0 (HS.ro gp1) lp1 (HS.ro gp2) lp2) Tryz.func34 ?_; clear HS; (try clear F); intro wt3 HS F))
 replace H := zif H; rcases H with ⟨c5, H⟩ | ⟨c5, H⟩
 case inl =>
  (try simp only [c5, dcn])
  obtain rfl := zsome H
  go_wp2
  go_ret
  exact HS.pk
 (try simp only [c5, dcn])
 replace H := zbind H; obtain ⟨t6, ht6, H⟩ := H
 go_upto_if 16 with (first | ((with_reducible refine gd 14 rfl ?_); refine ev_cl HS (laws_szPlanS.calls ht6.out (HS.ro gp3) lp3) Tryz.func35 ?_; clear HS; (try clear F); intro wt6 HS F))
 replace H := zif H; rcases H with ⟨c8, H⟩ | ⟨c8, H⟩
 case inl =>
  (try simp only [c8, dcn])
  obtain rfl := zsome H
  go_wp2
  go_ret
  exact HS.pk
 (try simp only [c8, dcn])
 replace H := zbind H; obtain ⟨t9, ht9, H⟩ := H
 go_upto_if 22 with (first | ((with_reducible refine gd 20 rfl ?_); refine ev_cl HS (laws_szKeptS.calls ht9.out (HS.ro gp4) lp4) Tryz.func36 ?_; clear HS; (try clear F); intro wt9 HS F))
 replace H := zif H; rcases H with ⟨c11, H⟩ | ⟨c11, H⟩
 case inl =>
  (try simp only [c11, dcn])
  obtain rfl := zsome H
  go_wp2
  go_ret
  exact HS.pk
 (try simp only [c11, dcn])
 obtain rfl := zsome H
 go_wp2
 go_ret
 exact HS.pk
/-! ### laws_szWorld: function 4 -/
def laws_szWorld.f (k : Nat) (a0 : S40) (a1 : Int) : Option (Int) := ((laws_szServer.f k a0.f0 a1).bind fun t3 => (if t3 < 0 then (some (-1)) else ((laws_szClient.f k a0.f1 t3).bind fun t6 => (if t6 < 0 then (some (-1)) else ((laws_szCertS.f k a0.f2 t6).bind fun t9 => (if t9 < 0 then (some (-1)) else ((laws_szLetterS.f k a0.f3 t9).bind fun t12 => (if t12 < 0 then (some (-1)) else ((laws_szIntS.f a0.f4 t12).bind fun t15 => (if t15 < 0 then (some (-1)) else ((laws_szPoseS.f k a0.f5 t15).bind fun t18 => (if t18 < 0 then (some (-1)) else ((laws_szStringS.f k a0.f6 t18).bind fun t21 => (if t21 < 0 then (some (-1)) else ((laws_szStringS.f k a0.f7 t21).bind fun t24 => (if t24 < 0 then (some (-1)) else (some t24)))))))))))))))))
set_option maxHeartbeats 16000000 in
theorem laws_szWorld.calls {k : Nat} {a0 : S40} {a1 : Int} {Ap0 : Option Addr} {np0 cp0 : Nat} {Ap1 : Option Addr} {np1 cp1 : Nat} {Ap2 : Option Addr} {np2 cp2 : Nat} {Ap3 : Option Addr} {np3 cp3 : Nat} {Ap4 : Option Addr} {np4 cp4 : Nat} {Ap5 : Option Addr} {np5 cp5 : Nat} {Ap6 : Option Addr} {np6 cp6 : Nat} {Ap7 : Option Addr} {np7 cp7 : Nat} {Ap8 : Option Addr} {np8 cp8 : Nat} {Ap9 : Option Addr} {np9 cp9 : Nat} {Ap10 : Option Addr} {np10 cp10 : Nat} {Ap11 : Option Addr} {np11 cp11 : Nat} {Ap12 : Option Addr} {np12 cp12 : Nat} {Ap13 : Option Addr} {np13 cp13 : Nat} {r : Int} {w : World} (h : laws_szWorld.f k a0 a1 = some r) (gp0 : k99.C w Ap0 np0 a0.f0.f0.f0) (lp0 : np0 ≤ cp0) (gp1 : k187.C w Ap1 np1 a0.f0.f0.f1) (lp1 : np1 ≤ cp1) (gp2 : k190.C w Ap2 np2 a0.f0.f0.f2) (lp2 : np2 ≤ cp2) (gp3 : k140.C w Ap3 np3 a0.f0.f1) (lp3 : np3 ≤ cp3) (gp4 : k143.C w Ap4 np4 a0.f0.f5) (lp4 : np4 ≤ cp4) (gp5 : k146.C w Ap5 np5 a0.f1.f2) (lp5 : np5 ≤ cp5) (gp6 : k152.C w Ap6 np6 a0.f1.f3) (lp6 : np6 ≤ cp6) (gp7 : (Kd.int .i64).C w Ap7 np7 a0.f1.f4) (lp7 : np7 ≤ cp7) (gp8 : k99.C w Ap8 np8 a0.f2) (lp8 : np8 ≤ cp8) (gp9 : k102.C w Ap9 np9 a0.f3) (lp9 : np9 ≤ cp9) (gp10 : (Kd.int .i64).C w Ap10 np10 a0.f4) (lp10 : np10 ≤ cp10) (gp11 : k105.C w Ap11 np11 a0.f5) (lp11 : np11 ≤ cp11) (gp12 : Kd.string.C w Ap12 np12 a0.f6) (lp12 : np12 ≤ cp12) (gp13 : Kd.string.C w Ap13 np13 a0.f7) (lp13 : np13 ≤ cp13) :
    Calls Tryz.prog 4 #[.agg #[.slice Ap0 np0 cp0, .slice Ap1 np1 cp1, .slice Ap2 np2 cp2, .slice Ap3 np3 cp3, .int .i64 a0.f0.f2, .int .i64 a0.f0.f3, .int .i64 a0.f0.f4, .slice Ap4 np4 cp4, .string a0.f1.f0, .int .i64 a0.f1.f1, .slice Ap5 np5 cp5, .slice Ap6 np6 cp6, .slice Ap7 np7 cp7, .slice Ap8 np8 cp8, .slice Ap9 np9 cp9, .slice Ap10 np10 cp10, .slice Ap11 np11 cp11, .slice Ap12 np12 cp12, .slice Ap13 np13 cp13], .int .i64 a1] w (fun e w' => e = .returned (.int .i64 r) ∧ Hp noFP w w' []) := by
 obtain rfl := C_len gp0
 obtain rfl := C_len gp1
 obtain rfl := C_len gp2
 obtain rfl := C_len gp3
 obtain rfl := C_len gp4
 obtain rfl := C_len gp5
 obtain rfl := C_len gp6
 obtain rfl := C_len gp7
 obtain rfl := C_len gp8
 obtain rfl := C_len gp9
 obtain rfl := C_len gp10
 obtain rfl := C_len gp11
 obtain rfl := C_len gp12
 obtain rfl := C_len gp13
 have HS := Hp.start w
 have H := Aside0.mk h
 clear h
 unfold laws_szWorld.f at H
 go_enter Tryz.func4, Tryz.ntmps4
 replace H := zbind H; obtain ⟨t3, ht3, H⟩ := H
 go_upto_if 10 with (first | ((with_reducible refine gd 2 rfl ?_); refine ev_bx HS ?_; clear HS; (try clear F); intro g2 w2 HS F) | ((with_reducible refine gd 8 rfl ?_); refine ev_cl HS (laws_szServer.calls ht3.out (HS.ro gp0) lp0 (HS.ro gp1) lp1 (HS.ro gp2) lp2 (HS.ro gp3) lp3 (HS.ro gp4) lp4) Tryz.func9 ?_; clear HS; (try clear F); intro wt3 HS F))
 replace H := zif H; rcases H with ⟨c5, H⟩ | ⟨c5, H⟩
 case inl =>
  (try simp only [c5, dcn])
  obtain rfl := zsome H
  go_wp2
  go_ret
  exact HS.pk
 (try simp only [c5, dcn])
 replace H := zbind H; obtain ⟨t6, ht6, H⟩ := H
 go_upto_if 16 with (first | ((with_reducible refine gd 14 rfl ?_); refine ev_cl HS (laws_szClient.calls ht6.out (HS.ro gp5) lp5 (HS.ro gp6) lp6 (HS.ro gp7) lp7) Tryz.func10 ?_; clear HS; (try clear F); intro wt6 HS F))
 replace H := zif H; rcases H with ⟨c8, H⟩ | ⟨c8, H⟩
 case inl =>
  (try simp only [c8, dcn])
  obtain rfl := zsome H
  go_wp2
  go_ret
  exact HS.pk
 (try simp only [c8, dcn])
 replace H := zbind H; obtain ⟨t9, ht9, H⟩ := H
 go_upto_if 22 with (first | ((with_reducible refine gd 20 rfl ?_); refine ev_cl HS (laws_szCertS.calls ht9.out (HS.ro gp8) lp8) Tryz.func11 ?_; clear HS; (try clear F); intro wt9 HS F))
 replace H := zif H; rcases H with ⟨c11, H⟩ | ⟨c11, H⟩
 case inl =>
  (try simp only [c11, dcn])
  obtain rfl := zsome H
  go_wp2
  go_ret
  exact HS.pk
 (try simp only [c11, dcn])
 replace H := zbind H; obtain ⟨t12, ht12, H⟩ := H
 go_upto_if 28 with (first | ((with_reducible refine gd 26 rfl ?_); refine ev_cl HS (laws_szLetterS.calls ht12.out (HS.ro gp9) lp9) Tryz.func12 ?_; clear HS; (try clear F); intro wt12 HS F))
 replace H := zif H; rcases H with ⟨c14, H⟩ | ⟨c14, H⟩
 case inl =>
  (try simp only [c14, dcn])
  obtain rfl := zsome H
  go_wp2
  go_ret
  exact HS.pk
 (try simp only [c14, dcn])
 replace H := zbind H; obtain ⟨t15, ht15, H⟩ := H
 go_upto_if 34 with (first | ((with_reducible refine gd 32 rfl ?_); refine ev_cl HS (laws_szIntS.calls ht15.out (HS.ro gp10) lp10) Tryz.func13 ?_; clear HS; (try clear F); intro wt15 HS F))
 replace H := zif H; rcases H with ⟨c17, H⟩ | ⟨c17, H⟩
 case inl =>
  (try simp only [c17, dcn])
  obtain rfl := zsome H
  go_wp2
  go_ret
  exact HS.pk
 (try simp only [c17, dcn])
 replace H := zbind H; obtain ⟨t18, ht18, H⟩ := H
 go_upto_if 40 with (first | ((with_reducible refine gd 38 rfl ?_); refine ev_cl HS (laws_szPoseS.calls ht18.out (HS.ro gp11) lp11) Tryz.func14 ?_; clear HS; (try clear F); intro wt18 HS F))
 replace H := zif H; rcases H with ⟨c20, H⟩ | ⟨c20, H⟩
 case inl =>
  (try simp only [c20, dcn])
  obtain rfl := zsome H
  go_wp2
  go_ret
  exact HS.pk
 (try simp only [c20, dcn])
 replace H := zbind H; obtain ⟨t21, ht21, H⟩ := H
 go_upto_if 46 with (first | ((with_reducible refine gd 44 rfl ?_); refine ev_cl HS (laws_szStringS.calls ht21.out (HS.ro gp12) lp12) Tryz.func15 ?_; clear HS; (try clear F); intro wt21 HS F))
 replace H := zif H; rcases H with ⟨c23, H⟩ | ⟨c23, H⟩
 case inl =>
  (try simp only [c23, dcn])
  obtain rfl := zsome H
  go_wp2
  go_ret
  exact HS.pk
 (try simp only [c23, dcn])
 replace H := zbind H; obtain ⟨t24, ht24, H⟩ := H
 go_upto_if 52 with (first | ((with_reducible refine gd 50 rfl ?_); refine ev_cl HS (laws_szStringS.calls ht24.out (HS.ro gp13) lp13) Tryz.func15 ?_; clear HS; (try clear F); intro wt24 HS F))
 replace H := zif H; rcases H with ⟨c26, H⟩ | ⟨c26, H⟩
 case inl =>
  (try simp only [c26, dcn])
  obtain rfl := zsome H
  go_wp2
  go_ret
  exact HS.pk
 (try simp only [c26, dcn])
 obtain rfl := zsome H
 go_wp2
 go_ret
 exact HS.pk
/-! ### spec_l01In: function 74 -/
def spec_l01In.f (a0 : Int) (a1 : Int) (a2 : Int) : Option (Bool) := (if a1 ≤ a0 then (some (decide (a0 ≤ a2))) else (some false))
set_option maxHeartbeats 16000000 in
theorem spec_l01In.calls {a0 : Int} {a1 : Int} {a2 : Int} {r : Bool} {w : World} (h : spec_l01In.f a0 a1 a2 = some r) :
    Calls Tryz.prog 74 #[.int .i64 a0, .int .i64 a1, .int .i64 a2] w (fun e w' => e = .returned (.bool r) ∧ Hp noFP w w' []) := by
 have HS := Hp.start w
 have H := Aside0.mk h
 clear h
 unfold spec_l01In.f at H
 go_enter Tryz.func74, Tryz.ntmps74
 replace H := zif H; rcases H with ⟨c1, H⟩ | ⟨c1, H⟩
 case inl =>
  obtain rfl := zsome H
  go_wp2
  go_ret
  exact HS.pk
 obtain rfl := zsome H
 go_wp2
 go_ret
 exact HS.pk
/-! ### spec_l15Texts: function 75 -/
def spec_l15Texts.l0 : Nat → Int → (List ByteArray) → Int → Option (Bool)
  | 0, _, _, _ => none
  | k + 1, x4, a0, a1 => (if x4 < (a0.length : Int) then (if 0 ≤ x4 then (if x4 < (a0.length : Int) then (if 400 < ((rdOf ByteArray.empty a0 x4).size : Int) then (some false) else (spec_l15Texts.l0 k (wrap64 (x4 + 1)) a0 a1)) else none) else none) else (some (decide ((a0.length : Int) ≤ a1))))
def spec_l15Texts.f (k : Nat) (a0 : (List ByteArray)) (a1 : Int) : Option (Bool) := (spec_l15Texts.l0 k 0 a0 a1)
set_option maxHeartbeats 16000000 in
theorem spec_l15Texts.calls {k : Nat} {a0 : (List ByteArray)} {a1 : Int} {Ap0 : Option Addr} {np0 cp0 : Nat} {r : Bool} {w : World} (h : spec_l15Texts.f k a0 a1 = some r) (gp0 : Kd.string.C w Ap0 np0 a0) (lp0 : np0 ≤ cp0) :
    Calls Tryz.prog 75 #[.slice Ap0 np0 cp0, .int .i64 a1] w (fun e w' => e = .returned (.bool r) ∧ Hp noFP w w' []) := by
 obtain rfl := C_len gp0
 have HS := Hp.start w
 have H := Aside0.mk h
 clear h
 unfold spec_l15Texts.f at H
 go_enter Tryz.func75, Tryz.ntmps75
 go_wp2
 go_loopg [5] k (fun kq v_5 w' => ∃ (x4 : Int), v_5 = .int .i64 x4 ∧ Aside0 (spec_l15Texts.l0 kq x4 a0 a1 = some r) ∧ Aside0 (kq ≤ k) ∧ Hp noFP w w' [])
 case atStart => exact ⟨_, rfl, H, ⟨Nat.le_refl _⟩, HS⟩
 case round =>
  clear HS H; (try clear F)
  obtain ⟨x4, rfl, H, HKk3, HS⟩ := hrel
  cases gk with
  | zero => exact absurd H.out (by simp [spec_l15Texts.l0])
  | succ k3 =>
   simp only [spec_l15Texts.l0] at H
   replace H := znif H; rcases H with ⟨c6, H⟩ | ⟨c6, H⟩
   case inl =>
    obtain rfl := zsome H
    go_wp2
    go_ret
    exact HS.pk
   replace H := zgo H; obtain ⟨c7, H⟩ := H
   replace H := zgo H; obtain ⟨c8, H⟩ := H
   obtain ⟨ad9, rfl, e9_0⟩ := Kd.at_string gp0 x4 (of_eq_true c7) (of_eq_true c8)
   have e9_0_9 := (HS.keepc e9_0)
   replace H := zif H; rcases H with ⟨c10, H⟩ | ⟨c10, H⟩
   case inl =>
    obtain rfl := zsome H
    go_wp2
    go_ret
    exact HS.pk
   go_wp2
   go_roundg k3
   case measure => have := HKk3.out; omega
   case rel => exact ⟨_, rfl, H, ⟨by have := HKk3.out; omega⟩, HS.pick [] (by decide) (by rfl)⟩
/-! ### spec_ReplyOk: function 42 -/
def spec_ReplyOk.l0 : Nat → Int → S74 → Option (Bool)
  | 0, _, _ => none
  | k + 1, x6, a0 => (if x6 < (a0.f6.length : Int) then (if 0 ≤ x6 then (if x6 < (a0.f6.length : Int) then ((spec_l01In.f ((rd_T154 a0.f6 x6).f0) 0 2).bind fun t16 => (if t16 = true then ((spec_l01In.f ((rd_T154 a0.f6 x6).f1) 0 12).bind fun t19 => (if t19 = true then ((spec_l15Texts.f k ((rd_T154 a0.f6 x6).f2) 5).bind fun t22 => (if t22 = true then ((spec_l15Texts.f k ((rd_T154 a0.f6 x6).f3) 8).bind fun t25 => (if t25 = true then (spec_ReplyOk.l0 k (wrap64 (x6 + 1)) a0) else (some false))) else (some false))) else (some false))) else (some false))) else none) else none) else (if (a0.f0.size : Int) = 32 then ((spec_l01In.f a0.f1 0 1000000000).bind fun t29 => (if t29 = true then ((spec_l01In.f a0.f2 0 19999).bind fun t32 => (if t32 = true then ((spec_l01In.f a0.f3 0 19999).bind fun t35 => (if t35 = true then ((spec_l01In.f a0.f4 0 99).bind fun t38 => (if t38 = true then ((spec_l01In.f a0.f5 0 2).bind fun t41 => (if t41 = true then (if (a0.f6.length : Int) ≤ 3 then (some ((a0.f7.size : Int) == 15)) else (some false)) else (some false))) else (some false))) else (some false))) else (some false))) else (some false))) else (some false)))
def spec_ReplyOk.f (k : Nat) (a0 : S74) : Option (Bool) := (spec_ReplyOk.l0 k 0 a0)
set_option maxHeartbeats 16000000 in
theorem spec_ReplyOk.calls {k : Nat} {a0 : S74} {Ap0 : Option Addr} {np0 cp0 : Nat} {r : Bool} {w : World} (h : spec_ReplyOk.f k a0 = some r) (gp0 : k154.C w Ap0 np0 a0.f6) (lp0 : np0 ≤ cp0) :
    Calls Tryz.prog 42 #[.agg #[.string a0.f0, .int .i64 a0.f1, .int .i64 a0.f2, .int .i64 a0.f3, .int .i64 a0.f4, .int .i64 a0.f5, .slice Ap0 np0 cp0, .string a0.f7]] w (fun e w' => e = .returned (.bool r) ∧ Hp noFP w w' []) := by
 obtain rfl := C_len gp0
 have HS := Hp.start w
 have H := Aside0.mk h
 clear h
 unfold spec_ReplyOk.f at H
 go_enter Tryz.func42, Tryz.ntmps42
 go_wp2_with (first | ((with_reducible refine gd 1 rfl ?_); refine ev_bx HS ?_; clear HS; (try clear F); intro g1 w1 HS F))
 go_loopg [3] k (fun kq v_3 w' => ∃ (x6 : Int), v_3 = .int .i64 x6 ∧ Aside0 (spec_ReplyOk.l0 kq x6 a0 = some r) ∧ Aside0 (kq ≤ k) ∧ Hp noFP w w' [.box g1 [.string a0.f0, .int .i64 a0.f1, .int .i64 a0.f2, .int .i64 a0.f3, .int .i64 a0.f4, .int .i64 a0.f5, .slice Ap0 a0.f6.length cp0, .string a0.f7] 74])
 case atStart => exact ⟨_, rfl, H, ⟨Nat.le_refl _⟩, HS⟩
 case round =>
  clear HS H; (try clear F)
  obtain ⟨x6, rfl, H, HKk5, HS⟩ := hrel
  have F := HS.boxes; simp only [bxn] at F
  cases gk with
  | zero => exact absurd H.out (by simp [spec_ReplyOk.l0])
  | succ k5 =>
   simp only [spec_ReplyOk.l0] at H
   replace H := zif H; rcases H with ⟨c8, H⟩ | ⟨c8, H⟩
   case inl =>
    replace H := zgo H; obtain ⟨c9, H⟩ := H
    replace H := zgo H; obtain ⟨c10, H⟩ := H
    obtain ⟨ad11, B11_2, d11_2, B11_3, d11_3, rfl, e11_0, e11_1, e11_2, e11_3, m11_2, y11_2, m11_3, y11_3⟩ := at_T154 gp0 x6 (of_eq_true c9) (of_eq_true c10)
    have e11_0_11 := (HS.keepc e11_0)
    have e11_1_11 := (HS.keepc e11_1)
    have e11_2_11 := (HS.keepc e11_2)
    have e11_3_11 := (HS.keepc e11_3)
    replace H := zbind H; obtain ⟨t16, ht16, H⟩ := H
    replace H := znifb H; rcases H with ⟨c18, H⟩ | ⟨c18, H⟩
    case inl =>
     subst c18
     obtain rfl := zsome H
     go_wp2_with (first | ((with_reducible refine gd 4 rfl ?_); refine ev_bx HS ?_; clear HS; (try clear F); intro g4 w4 HS F) | ((with_reducible refine gate_store (p := 4) rfl ?_); refine ev_st 1 0 HS (seg := [.int .i64 ((rd_T154 a0.f6 x6).f0), .int .i64 ((rd_T154 a0.f6 x6).f1), .slice B11_2 (rd_T154 a0.f6 x6).f2.length d11_2, .slice B11_3 (rd_T154 a0.f6 x6).f3.length d11_3]) ?_; clear HS; (try clear F); intro w14 HS F) | ((with_reducible refine gd 19 rfl ?_); refine ev_cl HS (spec_l01In.calls ht16.out) Tryz.func74 ?_; clear HS; (try clear F); intro wt16 HS F))
     go_ret
     exact HS.pk
    subst c18
    replace H := zbind H; obtain ⟨t19, ht19, H⟩ := H
    replace H := znifb H; rcases H with ⟨c21, H⟩ | ⟨c21, H⟩
    case inl =>
     subst c21
     obtain rfl := zsome H
     go_wp2_with (first | ((with_reducible refine gd 4 rfl ?_); refine ev_bx HS ?_; clear HS; (try clear F); intro g4 w4 HS F) | ((with_reducible refine gate_store (p := 4) rfl ?_); refine ev_st 1 0 HS (seg := [.int .i64 ((rd_T154 a0.f6 x6).f0), .int .i64 ((rd_T154 a0.f6 x6).f1), .slice B11_2 (rd_T154 a0.f6 x6).f2.length d11_2, .slice B11_3 (rd_T154 a0.f6 x6).f3.length d11_3]) ?_; clear HS; (try clear F); intro w14 HS F) | ((with_reducible refine gd 19 rfl ?_); refine ev_cl HS (spec_l01In.calls ht16.out) Tryz.func74 ?_; clear HS; (try clear F); intro wt16 HS F) | ((with_reducible refine gd 24 rfl ?_); refine gate_guard (by rfl) ?_; refine ev_cl HS (spec_l01In.calls ht19.out) Tryz.func74 ?_; clear HS; (try clear F); intro wt19 HS F))
     go_ret
     exact HS.pk
    subst c21
    replace H := zbind H; obtain ⟨t22, ht22, H⟩ := H
    replace H := znifb H; rcases H with ⟨c24, H⟩ | ⟨c24, H⟩
    case inl =>
     subst c24
     obtain rfl := zsome H
     go_wp2_with (first | ((with_reducible refine gd 4 rfl ?_); refine ev_bx HS ?_; clear HS; (try clear F); intro g4 w4 HS F) | ((with_reducible refine gate_store (p := 4) rfl ?_); refine ev_st 1 0 HS (seg := [.int .i64 ((rd_T154 a0.f6 x6).f0), .int .i64 ((rd_T154 a0.f6 x6).f1), .slice B11_2 (rd_T154 a0.f6 x6).f2.length d11_2, .slice B11_3 (rd_T154 a0.f6 x6).f3.length d11_3]) ?_; clear HS; (try clear F); intro w14 HS F) | ((with_reducible refine gd 19 rfl ?_); refine ev_cl HS (spec_l01In.calls ht16.out) Tryz.func74 ?_; clear HS; (try clear F); intro wt16 HS F) | ((with_reducible refine gd 24 rfl ?_); refine gate_guard (by rfl) ?_; refine ev_cl HS (spec_l01In.calls ht19.out) Tryz.func74 ?_; clear HS; (try clear F); intro wt19 HS F) | ((with_reducible refine gd 30 rfl ?_); refine gate_guard (by rfl) ?_; refine ev_cl HS (spec_l15Texts.calls ht22.out (HS.ro y11_2) m11_2) Tryz.func75 ?_; clear HS; (try clear F); intro wt22 HS F))
     go_ret
     exact HS.pk
    subst c24
    replace H := zbind H; obtain ⟨t25, ht25, H⟩ := H
    go_upto_if 38 with (first | ((with_reducible refine gd 4 rfl ?_); refine ev_bx HS ?_; clear HS; (try clear F); intro g4 w4 HS F) | ((with_reducible refine gate_store (p := 4) rfl ?_); refine ev_st 1 0 HS (seg := [.int .i64 ((rd_T154 a0.f6 x6).f0), .int .i64 ((rd_T154 a0.f6 x6).f1), .slice B11_2 (rd_T154 a0.f6 x6).f2.length d11_2, .slice B11_3 (rd_T154 a0.f6 x6).f3.length d11_3]) ?_; clear HS; (try clear F); intro w14 HS F) | ((with_reducible refine gd 19 rfl ?_); refine ev_cl HS (spec_l01In.calls ht16.out) Tryz.func74 ?_; clear HS; (try clear F); intro wt16 HS F) | ((with_reducible refine gd 24 rfl ?_); refine gate_guard (by rfl) ?_; refine ev_cl HS (spec_l01In.calls ht19.out) Tryz.func74 ?_; clear HS; (try clear F); intro wt19 HS F) | ((with_reducible refine gd 30 rfl ?_); refine gate_guard (by rfl) ?_; refine ev_cl HS (spec_l15Texts.calls ht22.out (HS.ro y11_2) m11_2) Tryz.func75 ?_; clear HS; (try clear F); intro wt22 HS F) | ((with_reducible refine gd 36 rfl ?_); refine gate_guard (by rfl) ?_; refine ev_cl HS (spec_l15Texts.calls ht25.out (HS.ro y11_3) m11_3) Tryz.func75 ?_; clear HS; (try clear F); intro wt25 HS F))
    replace H := znifb H; rcases H with ⟨c27, H⟩ | ⟨c27, H⟩
    case inl =>
     subst c27
     (try simp only [dcn, if_true, Bool.false_eq_true, if_false])
     obtain rfl := zsome H
     go_wp2
     go_ret
     exact HS.pk
    subst c27
    (try simp only [dcn, if_true, Bool.false_eq_true, if_false])
    go_wp2
    go_roundg k5
    case measure => have := HKk5.out; omega
    case rel => exact ⟨_, rfl, H, ⟨by have := HKk5.out; omega⟩, HS.pick [0] (by decide) (by rfl)⟩
   replace H := znif' H; rcases H with ⟨c28, H⟩ | ⟨c28, H⟩
   case inl =>
    have c28a := beq_eq_false_iff_ne.mpr c28
    have c28b := bne_iff_ne.mpr c28
    clear c28
    obtain rfl := zsome H
    go_wp2
    go_ret
    exact HS.pk
   have c28a := beq_iff_eq.mpr c28
   have c28b := bne_eq_false_iff_eq.mpr c28
   clear c28
   replace H := zbind H; obtain ⟨t29, ht29, H⟩ := H
   replace H := znifb H; rcases H with ⟨c31, H⟩ | ⟨c31, H⟩
   case inl =>
    subst c31
    obtain rfl := zsome H
    go_wp2_with (first | ((with_reducible refine gd 46 rfl ?_); refine gate_guard (by rfl) ?_; refine ev_cl HS (spec_l01In.calls ht29.out) Tryz.func74 ?_; clear HS; (try clear F); intro wt29 HS F))
    go_ret
    exact HS.pk
   subst c31
   replace H := zbind H; obtain ⟨t32, ht32, H⟩ := H
   replace H := znifb H; rcases H with ⟨c34, H⟩ | ⟨c34, H⟩
   case inl =>
    subst c34
    obtain rfl := zsome H
    go_wp2_with (first | ((with_reducible refine gd 46 rfl ?_); refine gate_guard (by rfl) ?_; refine ev_cl HS (spec_l01In.calls ht29.out) Tryz.func74 ?_; clear HS; (try clear F); intro wt29 HS F) | ((with_reducible refine gd 51 rfl ?_); refine gate_guard (by rfl) ?_; refine ev_cl HS (spec_l01In.calls ht32.out) Tryz.func74 ?_; clear HS; (try clear F); intro wt32 HS F))
    go_ret
    exact HS.pk
   subst c34
   replace H := zbind H; obtain ⟨t35, ht35, H⟩ := H
   replace H := znifb H; rcases H with ⟨c37, H⟩ | ⟨c37, H⟩
   case inl =>
    subst c37
    obtain rfl := zsome H
    go_wp2_with (first | ((with_reducible refine gd 46 rfl ?_); refine gate_guard (by rfl) ?_; refine ev_cl HS (spec_l01In.calls ht29.out) Tryz.func74 ?_; clear HS; (try clear F); intro wt29 HS F) | ((with_reducible refine gd 51 rfl ?_); refine gate_guard (by rfl) ?_; refine ev_cl HS (spec_l01In.calls ht32.out) Tryz.func74 ?_; clear HS; (try clear F); intro wt32 HS F) | ((with_reducible refine gd 56 rfl ?_); refine gate_guard (by rfl) ?_; refine ev_cl HS (spec_l01In.calls ht35.out) Tryz.func74 ?_; clear HS; (try clear F); intro wt35 HS F))
    go_ret
    exact HS.pk
   subst c37
   replace H := zbind H; obtain ⟨t38, ht38, H⟩ := H
   replace H := znifb H; rcases H with ⟨c40, H⟩ | ⟨c40, H⟩
   case inl =>
    subst c40
    obtain rfl := zsome H
    go_wp2_with (first | ((with_reducible refine gd 46 rfl ?_); refine gate_guard (by rfl) ?_; refine ev_cl HS (spec_l01In.calls ht29.out) Tryz.func74 ?_; clear HS; (try clear F); intro wt29 HS F) | ((with_reducible refine gd 51 rfl ?_); refine gate_guard (by rfl) ?_; refine ev_cl HS (spec_l01In.calls ht32.out) Tryz.func74 ?_; clear HS; (try clear F); intro wt32 HS F) | ((with_reducible refine gd 56 rfl ?_); refine gate_guard (by rfl) ?_; refine ev_cl HS (spec_l01In.calls ht35.out) Tryz.func74 ?_; clear HS; (try clear F); intro wt35 HS F) | ((with_reducible refine gd 61 rfl ?_); refine gate_guard (by rfl) ?_; refine ev_cl HS (spec_l01In.calls ht38.out) Tryz.func74 ?_; clear HS; (try clear F); intro wt38 HS F))
    go_ret
    exact HS.pk
   subst c40
   replace H := zbind H; obtain ⟨t41, ht41, H⟩ := H
   replace H := znifb H; rcases H with ⟨c43, H⟩ | ⟨c43, H⟩
   case inl =>
    subst c43
    obtain rfl := zsome H
    go_wp2_with (first | ((with_reducible refine gd 46 rfl ?_); refine gate_guard (by rfl) ?_; refine ev_cl HS (spec_l01In.calls ht29.out) Tryz.func74 ?_; clear HS; (try clear F); intro wt29 HS F) | ((with_reducible refine gd 51 rfl ?_); refine gate_guard (by rfl) ?_; refine ev_cl HS (spec_l01In.calls ht32.out) Tryz.func74 ?_; clear HS; (try clear F); intro wt32 HS F) | ((with_reducible refine gd 56 rfl ?_); refine gate_guard (by rfl) ?_; refine ev_cl HS (spec_l01In.calls ht35.out) Tryz.func74 ?_; clear HS; (try clear F); intro wt35 HS F) | ((with_reducible refine gd 61 rfl ?_); refine gate_guard (by rfl) ?_; refine ev_cl HS (spec_l01In.calls ht38.out) Tryz.func74 ?_; clear HS; (try clear F); intro wt38 HS F) | ((with_reducible refine gd 66 rfl ?_); refine gate_guard (by rfl) ?_; refine ev_cl HS (spec_l01In.calls ht41.out) Tryz.func74 ?_; clear HS; (try clear F); intro wt41 HS F))
    go_ret
    exact HS.pk
   subst c43
   replace H := zif H; rcases H with ⟨c44, H⟩ | ⟨c44, H⟩
   case inl =>
    obtain rfl := zsome H
    go_wp2_with (first | ((with_reducible refine gd 46 rfl ?_); refine gate_guard (by rfl) ?_; refine ev_cl HS (spec_l01In.calls ht29.out) Tryz.func74 ?_; clear HS; (try clear F); intro wt29 HS F) | ((with_reducible refine gd 51 rfl ?_); refine gate_guard (by rfl) ?_; refine ev_cl HS (spec_l01In.calls ht32.out) Tryz.func74 ?_; clear HS; (try clear F); intro wt32 HS F) | ((with_reducible refine gd 56 rfl ?_); refine gate_guard (by rfl) ?_; refine ev_cl HS (spec_l01In.calls ht35.out) Tryz.func74 ?_; clear HS; (try clear F); intro wt35 HS F) | ((with_reducible refine gd 61 rfl ?_); refine gate_guard (by rfl) ?_; refine ev_cl HS (spec_l01In.calls ht38.out) Tryz.func74 ?_; clear HS; (try clear F); intro wt38 HS F) | ((with_reducible refine gd 66 rfl ?_); refine gate_guard (by rfl) ?_; refine ev_cl HS (spec_l01In.calls ht41.out) Tryz.func74 ?_; clear HS; (try clear F); intro wt41 HS F))
    go_ret
    exact HS.pk
   obtain rfl := zsome H
   go_wp2_with (first | ((with_reducible refine gd 46 rfl ?_); refine gate_guard (by rfl) ?_; refine ev_cl HS (spec_l01In.calls ht29.out) Tryz.func74 ?_; clear HS; (try clear F); intro wt29 HS F) | ((with_reducible refine gd 51 rfl ?_); refine gate_guard (by rfl) ?_; refine ev_cl HS (spec_l01In.calls ht32.out) Tryz.func74 ?_; clear HS; (try clear F); intro wt32 HS F) | ((with_reducible refine gd 56 rfl ?_); refine gate_guard (by rfl) ?_; refine ev_cl HS (spec_l01In.calls ht35.out) Tryz.func74 ?_; clear HS; (try clear F); intro wt35 HS F) | ((with_reducible refine gd 61 rfl ?_); refine gate_guard (by rfl) ?_; refine ev_cl HS (spec_l01In.calls ht38.out) Tryz.func74 ?_; clear HS; (try clear F); intro wt38 HS F) | ((with_reducible refine gd 66 rfl ?_); refine gate_guard (by rfl) ?_; refine ev_cl HS (spec_l01In.calls ht41.out) Tryz.func74 ?_; clear HS; (try clear F); intro wt41 HS F))
   go_ret
   exact HS.pk
/-! ### spec_l07Plain: function 123 -/
def spec_l07Plain.l0 : Nat → Int → S110 → Option (Bool)
  | 0, _, _ => none
  | k + 1, x24, a0 => (if x24 < (a0.f1.size : Int) then (if 0 ≤ x24 then (if x24 < (a0.f1.size : Int) then (if (bt a0.f1 x24) < 32 then (some false) else (if 126 < (bt a0.f1 x24) then (some false) else (spec_l07Plain.l0 k (wrap64 (x24 + 1)) a0))) else none) else none) else (some true))
def spec_l07Plain.f (k : Nat) (a0 : S110) : Option (Bool) := (if a0.f0 = 1 then (if a0.f1.toList = ([0] : List UInt8) then (some true) else (some (a0.f1.toList == ([255] : List UInt8)))) else (if a0.f0 = 2 then ((spec_l01In.f (a0.f1.size : Int) 1 5).bind fun t6 => (if t6 = true then (if 0 < (a0.f1.size : Int) then (if 128 ≤ (bt a0.f1 0) then (some false) else (if (bt a0.f1 0) = 0 then (if (a0.f1.size : Int) = 1 then (some true) else (if 1 < (a0.f1.size : Int) then (some (decide (128 ≤ (bt a0.f1 1)))) else none)) else (some true))) else none) else (some false))) else (if a0.f0 = 12 then (spec_l07Plain.l0 k 0 a0) else (some (a0.f0 == 4)))))
set_option maxHeartbeats 16000000 in
theorem spec_l07Plain.calls {k : Nat} {a0 : S110} {Ap0 : Option Addr} {np0 cp0 : Nat} {r : Bool} {w : World} (h : spec_l07Plain.f k a0 = some r) (gp0 : k110.C w Ap0 np0 a0.f2) (lp0 : np0 ≤ cp0) :
    Calls Tryz.prog 123 #[.agg #[.int .i64 a0.f0, .string a0.f1, .slice Ap0 np0 cp0]] w (fun e w' => e = .returned (.bool r) ∧ Hp noFP w w' []) := by
 obtain rfl := C_len gp0
 have HS := Hp.start w
 have H := Aside0.mk h
 clear h
 unfold spec_l07Plain.f at H
 go_enter Tryz.func123, Tryz.ntmps123
 go_upto_if 6 with (first | ((with_reducible refine gd 1 rfl ?_); refine ev_bx HS ?_; clear HS; (try clear F); intro g1 w1 HS F))
 replace H := zif' H; rcases H with ⟨c3, H⟩ | ⟨c3, H⟩
 case inl =>
  have c3a := beq_iff_eq.mpr c3
  have c3b := bne_eq_false_iff_eq.mpr c3
  clear c3
  (try simp only [c3a, c3b, dcn])
  replace H := znif' H; rcases H with ⟨c4, H⟩ | ⟨c4, H⟩
  case inl =>
   have c4a := beq_eq_false_iff_ne.mpr c4
   have c4b := bne_iff_ne.mpr c4
   clear c4
   obtain rfl := zsome H
   go_wp2
   go_ret
   exact HS.pk
  have c4a := beq_iff_eq.mpr c4
  have c4b := bne_eq_false_iff_eq.mpr c4
  clear c4
  obtain rfl := zsome H
  go_wp2
  go_ret
  exact HS.pk
 have c3a := beq_eq_false_iff_ne.mpr c3
 have c3b := bne_iff_ne.mpr c3
 clear c3
 (try simp only [c3a, c3b, dcn])
 replace H := znif' H; rcases H with ⟨c5, H⟩ | ⟨c5, H⟩
 case inl =>
  have c5a := beq_eq_false_iff_ne.mpr c5
  have c5b := bne_iff_ne.mpr c5
  clear c5
  replace H := znif' H; rcases H with ⟨c20, H⟩ | ⟨c20, H⟩
  case inl =>
   have c20a := beq_eq_false_iff_ne.mpr c20
   have c20b := bne_iff_ne.mpr c20
   clear c20
   obtain rfl := zsome H
   go_wp2
   go_ret
   exact HS.pk
  have c20a := beq_iff_eq.mpr c20
  have c20b := bne_eq_false_iff_eq.mpr c20
  clear c20
  go_wp2
  go_loopg [3] k (fun kq v_3 w' => ∃ (x24 : Int), v_3 = .int .i64 x24 ∧ Aside0 (spec_l07Plain.l0 kq x24 a0 = some r) ∧ Aside0 (kq ≤ k) ∧ Hp noFP w w' [.box g1 [.int .i64 a0.f0, .string a0.f1, .slice Ap0 a0.f2.length cp0] 110])
  case atStart => exact ⟨_, rfl, H, ⟨Nat.le_refl _⟩, HS⟩
  case round =>
   clear HS H; (try clear F)
   obtain ⟨x24, rfl, H, HKk23, HS⟩ := hrel
   have F := HS.boxes; simp only [bxn] at F
   cases gk with
   | zero => exact absurd H.out (by simp [spec_l07Plain.l0])
   | succ k23 =>
    simp only [spec_l07Plain.l0] at H
    replace H := znif H; rcases H with ⟨c26, H⟩ | ⟨c26, H⟩
    case inl =>
     obtain rfl := zsome H
     go_wp2
     go_ret
     exact HS.pk
    replace H := zgo H; obtain ⟨c27, H⟩ := H
    replace H := zgo H; obtain ⟨c28, H⟩ := H
    have hx29 := bt_at a0.f1 x24
    replace H := zif H; rcases H with ⟨c30, H⟩ | ⟨c30, H⟩
    case inl =>
     obtain rfl := zsome H
     go_wp2
     go_ret
     exact HS.pk
    have hx31 := bt_at a0.f1 x24
    replace H := zif H; rcases H with ⟨c32, H⟩ | ⟨c32, H⟩
    case inl =>
     obtain rfl := zsome H
     go_wp2
     go_ret
     exact HS.pk
    go_wp2
    go_roundg k23
    case measure => have := HKk23.out; omega
    case rel => exact ⟨_, rfl, H, ⟨by have := HKk23.out; omega⟩, HS.pick [0] (by decide) (by rfl)⟩
 have c5a := beq_iff_eq.mpr c5
 have c5b := bne_eq_false_iff_eq.mpr c5
 clear c5
 replace H := zbind H; obtain ⟨t6, ht6, H⟩ := H
 replace H := znifb H; rcases H with ⟨c8, H⟩ | ⟨c8, H⟩
 case inl =>
  subst c8
  obtain rfl := zsome H
  go_wp2_with (first | ((with_reducible refine gd 21 rfl ?_); refine ev_cl HS (spec_l01In.calls ht6.out) Tryz.func74 ?_; clear HS; (try clear F); intro wt6 HS F))
  go_ret
  exact HS.pk
 subst c8
 replace H := zgo H; obtain ⟨c9, H⟩ := H
 have c9n : (0 < a0.f1.size) = True := eq_true (by have := of_eq_true c9; omega)
 go_upto_if 28 with (first | ((with_reducible refine gd 21 rfl ?_); refine ev_cl HS (spec_l01In.calls ht6.out) Tryz.func74 ?_; clear HS; (try clear F); intro wt6 HS F; have hx10 : ∀ h : 0 < a0.f1.size, ((a0.f1[0]'h).toNat : Int) = bt a0.f1 0 := bt_at a0.f1 0; have hz11 : 0 < a0.f1.size := (by have := of_eq_true c9; omega)))
 replace H := zif H; rcases H with ⟨c12, H⟩ | ⟨c12, H⟩
 case inl =>
  (try simp only [c12, dcn])
  obtain rfl := zsome H
  go_wp2
  go_ret
  exact HS.pk
 (try simp only [c12, dcn])
 have hx13 : ∀ h : 0 < a0.f1.size, ((a0.f1[0]'h).toNat : Int) = bt a0.f1 0 := bt_at a0.f1 0
 have hz14 : 0 < a0.f1.size := (by have := of_eq_true c9; omega)
 replace H := znif' H; rcases H with ⟨c15, H⟩ | ⟨c15, H⟩
 case inl =>
  have c15a := beq_eq_false_iff_ne.mpr c15
  have c15b := bne_iff_ne.mpr c15
  clear c15
  obtain rfl := zsome H
  go_wp2
  go_ret
  exact HS.pk
 have c15a := beq_iff_eq.mpr c15
 have c15b := bne_eq_false_iff_eq.mpr c15
 clear c15
 replace H := zif' H; rcases H with ⟨c16, H⟩ | ⟨c16, H⟩
 case inl =>
  have c16a := beq_iff_eq.mpr c16
  have c16b := bne_eq_false_iff_eq.mpr c16
  clear c16
  obtain rfl := zsome H
  go_wp2
  go_ret
  exact HS.pk
 have c16a := beq_eq_false_iff_ne.mpr c16
 have c16b := bne_iff_ne.mpr c16
 clear c16
 replace H := zgo H; obtain ⟨c17, H⟩ := H
 have c17n : (1 < a0.f1.size) = True := eq_true (by have := of_eq_true c17; omega)
 have hx18 : ∀ h : 1 < a0.f1.size, ((a0.f1[1]'h).toNat : Int) = bt a0.f1 1 := bt_at a0.f1 1
 have hz19 : 1 < a0.f1.size := (by have := of_eq_true c17; omega)
 obtain rfl := zsome H
 go_wp2
 go_ret
 exact HS.pk
/-! ### spec_l07Right: function 107 -/
mutual
def spec_l07Right.l0 : Nat → Int → S110 → Int → Option (Bool)
  | 0, _, _, _ => none
  | k + 1, x10, a0, a1 => (if x10 < (a0.f2.length : Int) then (if 0 ≤ x10 then (if x10 < (a0.f2.length : Int) then ((spec_l07Right.f k (rd_T110 a0.f2 x10) (wrap64 (a1 + 1))).bind fun t16 => (if t16 = true then (spec_l07Right.l0 k (wrap64 (x10 + 1)) a0 a1) else (some false))) else none) else none) else (some true))
def spec_l07Right.f : Nat → S110 → Int → Option (Bool)
  | 0, _, _ => none
  | k + 1, a0, a1 => (if a0.f0 = 48 then (if a0.f1.toList = ([] : List UInt8) then (if 40 < (a0.f2.length : Int) then (some false) else (if 6 ≤ a1 then (some false) else (spec_l07Right.l0 k 0 a0 a1))) else (some false)) else (if (a0.f2.length : Int) = 0 then ((spec_l07Plain.f k a0).bind fun t20 => (some t20)) else (some false)))
end
set_option maxHeartbeats 16000000 in
theorem spec_l07Right.calls_ (K : Nat) : ∀ {k : Nat} (hK : k ≤ K) {a0 : S110} {a1 : Int} {Ap0 : Option Addr} {np0 cp0 : Nat} {r : Bool} {w : World} (h : spec_l07Right.f k a0 a1 = some r) (gp0 : k110.C w Ap0 np0 a0.f2) (lp0 : np0 ≤ cp0),
    Calls Tryz.prog 107 #[.agg #[.int .i64 a0.f0, .string a0.f1, .slice Ap0 np0 cp0], .int .i64 a1] w (fun e w' => e = .returned (.bool r) ∧ Hp noFP w w' []) := by
  induction K with
  | zero =>
    intro k hK a0 a1 Ap0 np0 cp0 r w h gp0 lp0
    obtain rfl : k = 0 := by omega
    exact absurd h (by simp [spec_l07Right.f])
  | succ K IH =>
    intro k hK a0 a1 Ap0 np0 cp0 r w h gp0 lp0
    cases k with
    | zero => exact absurd h (by simp [spec_l07Right.f])
    | succ k =>
    have HK0 : Aside0 (k ≤ K) := ⟨by omega⟩
    clear hK
    obtain rfl := C_len gp0
    have HS := Hp.start w
    have H := Aside0.mk h
    clear h
    simp only [spec_l07Right.f] at H
    go_enter Tryz.func107, Tryz.ntmps107
    go_upto_if 8 with (first | ((with_reducible refine gd 2 rfl ?_); refine ev_bx HS ?_; clear HS; (try clear F); intro g2 w2 HS F))
    replace H := znif' H; rcases H with ⟨c3, H⟩ | ⟨c3, H⟩
    case inl =>
     have c3a := beq_eq_false_iff_ne.mpr c3
     have c3b := bne_iff_ne.mpr c3
     clear c3
     (try simp only [c3a, c3b, dcn])
     replace H := znif' H; rcases H with ⟨c19, H⟩ | ⟨c19, H⟩
     case inl =>
      have c19a := beq_eq_false_iff_ne.mpr c19
      have c19b := bne_iff_ne.mpr c19
      clear c19
      obtain rfl := zsome H
      go_wp2
      go_ret
      exact HS.pk
     have c19a := beq_iff_eq.mpr c19
     have c19b := bne_eq_false_iff_eq.mpr c19
     clear c19
     replace H := zbind H; obtain ⟨t20, ht20, H⟩ := H
     obtain rfl := zsome H
     go_wp2_with (first | ((with_reducible refine gd 15 rfl ?_); refine gate_guard (by rfl) ?_; refine ev_cl HS (spec_l07Plain.calls ht20.out (HS.ro gp0) lp0) Tryz.func123 ?_; clear HS; (try clear F); intro wt20 HS F))
     go_ret
     exact HS.pk
    have c3a := beq_iff_eq.mpr c3
    have c3b := bne_eq_false_iff_eq.mpr c3
    clear c3
    (try simp only [c3a, c3b, dcn])
    replace H := znif' H; rcases H with ⟨c4, H⟩ | ⟨c4, H⟩
    case inl =>
     have c4a := beq_eq_false_iff_ne.mpr c4
     have c4b := bne_iff_ne.mpr c4
     have c4e := List.isEmpty_eq_false_iff.mpr c4
     clear c4
     obtain rfl := zsome H
     go_wp2
     go_ret
     exact HS.pk
    have c4a := beq_iff_eq.mpr c4
    have c4b := bne_eq_false_iff_eq.mpr c4
    have c4e := List.isEmpty_iff.mpr c4
    clear c4
    replace H := zif H; rcases H with ⟨c5, H⟩ | ⟨c5, H⟩
    case inl =>
     obtain rfl := zsome H
     go_wp2
     go_ret
     exact HS.pk
    replace H := zif H; rcases H with ⟨c6, H⟩ | ⟨c6, H⟩
    case inl =>
     obtain rfl := zsome H
     go_wp2
     go_ret
     exact HS.pk
    go_wp2
    go_loopg [5] k (fun kq v_5 w' => ∃ (x10 : Int), v_5 = .int .i64 x10 ∧ Aside0 (spec_l07Right.l0 kq x10 a0 a1 = some r) ∧ Aside0 (kq ≤ k) ∧ Hp noFP w w' [.box g2 [.int .i64 a0.f0, .string a0.f1, .slice Ap0 a0.f2.length cp0] 110])
    case atStart => exact ⟨_, rfl, H, ⟨Nat.le_refl _⟩, HS⟩
    case round =>
     clear HS H; (try clear F)
     obtain ⟨x10, rfl, H, HKk9, HS⟩ := hrel
     have F := HS.boxes; simp only [bxn] at F
     cases gk with
     | zero => exact absurd H.out (by simp [spec_l07Right.l0])
     | succ k9 =>
      simp only [spec_l07Right.l0] at H
      replace H := znif H; rcases H with ⟨c12, H⟩ | ⟨c12, H⟩
      case inl =>
       obtain rfl := zsome H
       go_wp2
       go_ret
       exact HS.pk
      replace H := zgo H; obtain ⟨c13, H⟩ := H
      replace H := zgo H; obtain ⟨c14, H⟩ := H
      obtain ⟨ad15, B15_2, d15_2, rfl, e15_0, e15_1, e15_2, m15_2, y15_2⟩ := at_T110 gp0 x10 (of_eq_true c13) (of_eq_true c14)
      have e15_0_15 := (HS.keepc e15_0)
      have e15_1_15 := (HS.keepc e15_1)
      have e15_2_15 := (HS.keepc e15_2)
      replace H := zbind H; obtain ⟨t16, ht16, H⟩ := H
      go_upto_if 45 with (first | ((with_reducible refine gd 44 rfl ?_); refine ev_cl HS (IH (by have := HK0.out; have := HKk9.out; omega) ht16.out (HS.ro y15_2) m15_2) Tryz.func107 ?_; clear HS; (try clear F); intro wt16 HS F))
      replace H := znifb H; rcases H with ⟨c18, H⟩ | ⟨c18, H⟩
      case inl =>
       subst c18
       (try simp only [dcn, if_true, Bool.false_eq_true, if_false])
       obtain rfl := zsome H
       go_wp2
       go_ret
       exact HS.pk
      subst c18
      (try simp only [dcn, if_true, Bool.false_eq_true, if_false])
      go_wp2
      go_roundg k9
      case measure => have := HK0.out; have := HKk9.out; omega
      case rel => exact ⟨_, rfl, H, ⟨by have := HK0.out; have := HKk9.out; omega⟩, HS.pick [0] (by decide) (by rfl)⟩
theorem spec_l07Right.calls {k : Nat} {a0 : S110} {a1 : Int} {Ap0 : Option Addr} {np0 cp0 : Nat} {r : Bool} {w : World} (h : spec_l07Right.f k a0 a1 = some r) (gp0 : k110.C w Ap0 np0 a0.f2) (lp0 : np0 ≤ cp0) :
    Calls Tryz.prog 107 #[.agg #[.int .i64 a0.f0, .string a0.f1, .slice Ap0 np0 cp0], .int .i64 a1] w (fun e w' => e = .returned (.bool r) ∧ Hp noFP w w' []) := spec_l07Right.calls_ k (Nat.le_refl k) h gp0 lp0
/-! ### spec_ItemOk: function 76 -/
def spec_ItemOk.f (k : Nat) (a0 : S110) : Option (Bool) := ((spec_l07Right.f k a0 0).bind fun t3 => (some t3))
set_option maxHeartbeats 16000000 in
theorem spec_ItemOk.calls {k : Nat} {a0 : S110} {Ap0 : Option Addr} {np0 cp0 : Nat} {r : Bool} {w : World} (h : spec_ItemOk.f k a0 = some r) (gp0 : k110.C w Ap0 np0 a0.f2) (lp0 : np0 ≤ cp0) :
    Calls Tryz.prog 76 #[.agg #[.int .i64 a0.f0, .string a0.f1, .slice Ap0 np0 cp0]] w (fun e w' => e = .returned (.bool r) ∧ Hp noFP w w' []) := by
 obtain rfl := C_len gp0
 have HS := Hp.start w
 have H := Aside0.mk h
 clear h
 unfold spec_ItemOk.f at H
 go_enter Tryz.func76, Tryz.ntmps76
 replace H := zbind H; obtain ⟨t3, ht3, H⟩ := H
 obtain rfl := zsome H
 go_wp2_with (first | ((with_reducible refine gd 1 rfl ?_); refine ev_bx HS ?_; clear HS; (try clear F); intro g1 w1 HS F) | ((with_reducible refine gd 4 rfl ?_); refine ev_cl HS (spec_l07Right.calls ht3.out (HS.ro gp0) lp0) Tryz.func107 ?_; clear HS; (try clear F); intro wt3 HS F))
 go_ret
 exact HS.pk
/-! ### spec_l07Length: function 108 -/
def spec_l07Length.l0 : Nat → Int → ByteArray → Option (ByteArray)
  | 0, _, _ => none
  | k + 1, x13, x14 => (if 0 < x13 then (if (strOfNums ([((Int.tmod x13 256) % 256)] : List Int)).size + x14.size ≤ 9223372036854775807 then (spec_l07Length.l0 k (wrap64 (Int.tdiv x13 256)) ((strOfNums ([((Int.tmod x13 256) % 256)] : List Int)) ++ x14)) else none) else (if (strOfNums ([((wrap64 (128 + (x14.size : Int))) % 256)] : List Int)).size + x14.size ≤ 9223372036854775807 then (some ((strOfNums ([((wrap64 (128 + (x14.size : Int))) % 256)] : List Int)) ++ x14)) else none))
def spec_l07Length.f (k : Nat) (a0 : Int) : Option (ByteArray) := (if a0 < 128 then (some (strOfNums ([(a0 % 256)] : List Int))) else (spec_l07Length.l0 k a0 (⟨#[]⟩ : ByteArray)))
set_option maxHeartbeats 16000000 in
theorem spec_l07Length.calls {k : Nat} {a0 : Int} {r : ByteArray} {w : World} (h : spec_l07Length.f k a0 = some r) :
    Calls Tryz.prog 108 #[.int .i64 a0] w (fun e w' => e = .returned (.string r) ∧ Hp noFP w w' []) := by
 have HS := Hp.start w
 have H := Aside0.mk h
 clear h
 unfold spec_l07Length.f at H
 go_enter Tryz.func108, Tryz.ntmps108
 replace H := zif H; rcases H with ⟨c1, H⟩ | ⟨c1, H⟩
 case inl =>
  obtain rfl := zsome H
  go_wp2_with (first | ((with_reducible refine gd 8 rfl ?_); refine ev_li (Zd.int .u8) [] ([(a0 % 256)] : List Int) ([.int .u8 (a0 % 256)] ++ []) HS (MadeL.cons (js1 := []) (c := [.int .u8 (a0 % 256)]) rfl (made_flat (fun _ => rfl)) MadeL.nil (by decide)) ?_; clear HS; (try clear F); intro v2 w2 HS F; obtain ⟨B2, d2, rfl, m2⟩ := HS.formn 1 0 rfl rfl) | ((with_reducible refine gd 9 rfl ?_); refine ev_val rfl (run_str rfl rfl Tryz.underlying194 Tryz.underlying5 Tryz.underlying9 (HS.rd 0 rfl)) ?_))
  go_ret
  exact HS.pk
 go_wp2
 go_loopg [0, 3] k (fun kq v_0 v_3 w' => ∃ (x13 : Int) (x14 : ByteArray), v_0 = .int .i64 x13 ∧ v_3 = .string x14 ∧ Aside0 (spec_l07Length.l0 kq x13 x14 = some r) ∧ Aside0 (kq ≤ k) ∧ Hp noFP w w' [])
 case atStart => exact ⟨_, _, rfl, rfl, H, ⟨Nat.le_refl _⟩, HS⟩
 case round =>
  clear HS H; (try clear F)
  obtain ⟨x13, x14, rfl, rfl, H, HKk12, HS⟩ := hrel
  cases gk with
  | zero => exact absurd H.out (by simp [spec_l07Length.l0])
  | succ k12 =>
   simp only [spec_l07Length.l0] at H
   replace H := znif H; rcases H with ⟨c16, H⟩ | ⟨c16, H⟩
   case inl =>
    replace H := zgo H; obtain ⟨c22, H⟩ := H
    obtain rfl := zsome H
    go_wp2_with (first | ((with_reducible refine gd 25 rfl ?_); refine ev_li (Zd.int .u8) [] ([((wrap64 (128 + (x14.size : Int))) % 256)] : List Int) ([.int .u8 ((wrap64 (128 + (x14.size : Int))) % 256)] ++ []) HS (MadeL.cons (js1 := []) (c := [.int .u8 ((wrap64 (128 + (x14.size : Int))) % 256)]) rfl (made_flat (fun _ => rfl)) MadeL.nil (by decide)) ?_; clear HS; (try clear F); intro v20 w20 HS F; obtain ⟨B20, d20, rfl, m20⟩ := HS.formn 1 0 rfl rfl) | ((with_reducible refine gd 26 rfl ?_); refine ev_val rfl (run_str rfl rfl Tryz.underlying194 Tryz.underlying5 Tryz.underlying9 (HS.rd 0 rfl)) ?_) | ((with_reducible refine gd 28 rfl ?_); refine ev_val rfl (run_cat rfl rfl rfl (of_eq_true c22)) ?_))
    go_ret
    exact HS.pk
   replace H := zgo H; obtain ⟨c19, H⟩ := H
   go_wp2_with (first | ((with_reducible refine gd 15 rfl ?_); refine ev_li (Zd.int .u8) [] ([((Int.tmod x13 256) % 256)] : List Int) ([.int .u8 ((Int.tmod x13 256) % 256)] ++ []) HS (MadeL.cons (js1 := []) (c := [.int .u8 ((Int.tmod x13 256) % 256)]) rfl (made_flat (fun _ => rfl)) MadeL.nil (by decide)) ?_; clear HS; (try clear F); intro v17 w17 HS F; obtain ⟨B17, d17, rfl, m17⟩ := HS.formn 1 0 rfl rfl) | ((with_reducible refine gd 16 rfl ?_); refine ev_val rfl (run_str rfl rfl Tryz.underlying194 Tryz.underlying5 Tryz.underlying9 (HS.rd 0 rfl)) ?_) | ((with_reducible refine gd 18 rfl ?_); refine ev_val rfl (run_cat rfl rfl rfl (of_eq_true c19)) ?_))
   go_roundg k12
   case measure => have := HKk12.out; omega
   case rel => exact ⟨_, _, rfl, rfl, H, ⟨by have := HKk12.out; omega⟩, HS.pick [] (by decide) (by rfl)⟩
end Go.Proofs.YtfiifjlapaefaaaGreat.F
