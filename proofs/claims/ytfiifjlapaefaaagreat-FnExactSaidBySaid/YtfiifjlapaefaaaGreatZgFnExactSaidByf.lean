/- Functions of the program and of the law, and that their calls do what is written here. -/
import Derived.Test.YtfiifjlapaefaaaGreatZgFnExactSaidByd
import Derived.Test.YtfiifjlapaefaaaGreatZgFnExactSaidBye
namespace Go.Proofs.YtfiifjlapaefaaaGreat.F
open Go.RowKit Go.Proofs.YtfiifjlapaefaaaGreatW.PrintWords Go.Proofs.YtfiifjlapaefaaaGreatW.PrintLast Go.Proofs.YtfiifjlapaefaaaGreatW.PrintMore Go.Proofs.YtfiifjlapaefaaaGreat.Z
attribute [local go_sem] max2_int min2_int max_two min_two max_three min_three max_four min_four
set_option linter.unusedVariables false
set_option linter.unusedSimpArgs false
set_option maxRecDepth 100000
/-! ### laws_toLetter: function 52 -/
def laws_toLetter.f (a0 : S102) : Option (S120) := (some (⟨a0.f0, a0.f1⟩ : S120))
set_option maxHeartbeats 16000000 in
theorem laws_toLetter.calls {a0 : S102} {r : S120} {w : World} (h : laws_toLetter.f a0 = some r) :
    Calls Tryz.prog 52 #[.agg #[.bool a0.f0, .string a0.f1]] w (fun e w' => e = .returned (.agg #[.bool r.f0, .string r.f1]) ∧ Hp noFP w w' []) := by
 have HS := Hp.start w
 have H := Aside0.mk h
 clear h
 unfold laws_toLetter.f at H
 go_enter Tryz.func52, Tryz.ntmps52
 obtain rfl := zsome H
 go_wp2_with (first | ((with_reducible refine gd 1 rfl ?_); refine ev_bx HS ?_; clear HS; (try clear F); intro g1 w1 HS F) | ((with_reducible refine gd 2 rfl ?_); refine ev_bx HS ?_; clear HS; (try clear F); intro g2 w2 HS F) | ((with_reducible refine gd 3 rfl ?_); refine ev_bx HS ?_; clear HS; (try clear F); intro g3 w3 HS F) | ((with_reducible refine gate_store (p := 6) rfl ?_); refine ev_st 2 0 HS (seg := [.bool a0.f0]) ?_; clear HS; (try clear F); intro w7 HS F) | ((with_reducible refine gate_store (p := 9) rfl ?_); refine ev_st 2 1 HS (seg := [.string a0.f1]) ?_; clear HS; (try clear F); intro w9 HS F) | ((with_reducible refine gate_store (p := 2) rfl ?_); refine ev_st 1 0 HS (seg := [.bool a0.f0, .string a0.f1]) ?_; clear HS; (try clear F); intro w11 HS F))
 exact bodyPost_ret (results_single rfl (.cell _ _ _ _ _ rfl (HS.boxAt (i := 1) rfl) Tryz.underlying120 rfl (by kernel_rfl) .nil)) rfl ⟨rfl, HS.pick [] (by decide) (by rfl)⟩
/-! ### laws_toLetterS: function 21 -/
def laws_toLetterS.l0 : Nat → (List S120) → Int → (List S102) → Option ((List S120))
  | 0, _, _, _ => none
  | k + 1, l20, x22, a0 => (if x22 < (a0.length : Int) then (if 0 ≤ x22 then (if x22 < (a0.length : Int) then ((laws_toLetter.f (rd_T102 a0 x22)).bind fun t28 => (laws_toLetterS.l0 k (l20.set (x22).toNat t28) (wrap64 (x22 + 1)) a0)) else none) else none) else (some l20))
def laws_toLetterS.f (k : Nat) (a0 : (List S102)) : Option ((List S120)) := (if 0 ≤ (a0.length : Int) then (if ((a0.length : Int)).toNat ≤ 11728124029610 then (laws_toLetterS.l0 k (List.replicate a0.length z120) 0 a0) else none) else none)
set_option maxHeartbeats 16000000 in
theorem laws_toLetterS.calls {k : Nat} {a0 : (List S102)} {Ap0 : Option Addr} {np0 cp0 : Nat} {r : (List S120)} {w : World} (h : laws_toLetterS.f k a0 = some r) (gp0 : k102.C w Ap0 np0 a0) (lp0 : np0 ≤ cp0) :
    Calls Tryz.prog 21 #[.slice Ap0 np0 cp0] w (fun e w' => ∃ v0_ : Value, e = .returned (v0_) ∧ Hp noFP w w' [.own (Zd.slice 120 q120) r [v0_]]) := by
 obtain rfl := C_len gp0
 have HS := Hp.start w
 have H := Aside0.mk h
 clear h
 unfold laws_toLetterS.f at H
 go_enter Tryz.func21, Tryz.ntmps21
 replace H := zgo H; obtain ⟨c1, H⟩ := H
 replace H := zgo H; obtain ⟨c2, H⟩ := H
 go_wp2_with (first | ((with_reducible refine gd 7 rfl ?_); refine ev_make rfl q120 z120 HS rfl (a0.length : Int) rfl rfl Tryz.underlying56 info120 rfl (by decide) (by decide) q120_zero (of_eq_true c1) (by have := of_eq_true c2; omega) ?_; clear HS; (try clear F); intro v3 w3 HS; obtain ⟨B3, d3, rfl, m3⟩ := HS.formn a0.length 0 rfl (by first | rfl | simp); (try simp only [hpn, hpm] at HS)))
 go_loopg [4] k (fun kq v_4 w' => ∃ (l20 : List S120) (x22 : Int), v_4 = .int .i64 x22 ∧ Aside0 (laws_toLetterS.l0 kq l20 x22 a0 = some r) ∧ Aside0 (kq ≤ k) ∧ Hp noFP w w' [.own (Zd.slice 120 q120) l20 [.slice B3 a0.length d3]])
 case atStart => exact ⟨_, _, rfl, H, ⟨Nat.le_refl _⟩, HS⟩
 case round =>
  clear HS H; (try clear F)
  obtain ⟨l20, x22, rfl, H, HKk19, HS⟩ := hrel
  cases gk with
  | zero => exact absurd H.out (by simp [laws_toLetterS.l0])
  | succ k19 =>
   simp only [laws_toLetterS.l0] at H
   replace H := znif H; rcases H with ⟨c24, H⟩ | ⟨c24, H⟩
   case inl =>
    obtain rfl := zsome H
    go_wp2
    exact bodyPost_ret (results_single rfl (.tmp .nil)) rfl ⟨_, rfl, HS.pick [0] (by decide) (by rfl)⟩
   replace H := zgo H; obtain ⟨c25, H⟩ := H
   replace H := zgo H; obtain ⟨c26, H⟩ := H
   obtain ⟨ad27, rfl, e27_0, e27_1⟩ := at_T102 gp0 x22 (of_eq_true c25) (of_eq_true c26)
   have e27_0_27 := (HS.keepc e27_0)
   have e27_1_27 := (HS.keepc e27_1)
   replace H := zbind H; obtain ⟨t28, ht28, H⟩ := H
   go_wp2_with (first | ((with_reducible refine gd 20 rfl ?_); refine ev_cl HS (laws_toLetter.calls ht28.out) Tryz.func52 ?_; clear HS; (try clear F); intro wt28 HS F; obtain ⟨ad30, rfl, e30_0, e30_1⟩ := at_T120 (HS.rd 0 rfl) x22 (of_eq_true c25) (of_eq_true c26)) | ((with_reducible refine gate_store (p := 21) rfl ?_); refine ev_set rfl q120 0 [] x22 t28 HS (seg := [.bool t28.f0, .string t28.f1]) rfl (by decide) rfl rfl rfl (by first | rfl | exact (Nat.mul_one _).symm) rfl rfl (by kernel_rfl) (by simp [Value.oneCell']) ⟨of_eq_true c25, of_eq_true c26⟩ rfl (made_flat (fun _ => q120_flat _ _ _)) ?_; clear HS; (try clear F); intro w31 HS; (try simp only [hpn, hpm] at HS)))
   go_roundg k19
   case measure => have := HKk19.out; omega
   case rel => exact ⟨_, _, rfl, H, ⟨by have := HKk19.out; omega⟩, HS.pick [0] (by decide) (by rfl)⟩
/-! ### laws_toPose: function 53 -/
def laws_toPose.f (a0 : S105) : Option (S122) := (some (⟨a0.f0, a0.f1⟩ : S122))
set_option maxHeartbeats 16000000 in
theorem laws_toPose.calls {a0 : S105} {r : S122} {w : World} (h : laws_toPose.f a0 = some r) :
    Calls Tryz.prog 53 #[.agg #[.int .i64 a0.f0, .string a0.f1]] w (fun e w' => e = .returned (.agg #[.int .i64 r.f0, .string r.f1]) ∧ Hp noFP w w' []) := by
 have HS := Hp.start w
 have H := Aside0.mk h
 clear h
 unfold laws_toPose.f at H
 go_enter Tryz.func53, Tryz.ntmps53
 obtain rfl := zsome H
 go_wp2_with (first | ((with_reducible refine gd 1 rfl ?_); refine ev_bx HS ?_; clear HS; (try clear F); intro g1 w1 HS F) | ((with_reducible refine gd 2 rfl ?_); refine ev_bx HS ?_; clear HS; (try clear F); intro g2 w2 HS F) | ((with_reducible refine gd 3 rfl ?_); refine ev_bx HS ?_; clear HS; (try clear F); intro g3 w3 HS F) | ((with_reducible refine gate_store (p := 6) rfl ?_); refine ev_st 2 0 HS (seg := [.int .i64 a0.f0]) ?_; clear HS; (try clear F); intro w7 HS F) | ((with_reducible refine gate_store (p := 9) rfl ?_); refine ev_st 2 1 HS (seg := [.string a0.f1]) ?_; clear HS; (try clear F); intro w9 HS F) | ((with_reducible refine gate_store (p := 2) rfl ?_); refine ev_st 1 0 HS (seg := [.int .i64 a0.f0, .string a0.f1]) ?_; clear HS; (try clear F); intro w11 HS F))
 exact bodyPost_ret (results_single rfl (.cell _ _ _ _ _ rfl (HS.boxAt (i := 1) rfl) Tryz.underlying122 rfl (by kernel_rfl) .nil)) rfl ⟨rfl, HS.pick [] (by decide) (by rfl)⟩
/-! ### laws_toPoseS: function 23 -/
def laws_toPoseS.l0 : Nat → (List S122) → Int → (List S105) → Option ((List S122))
  | 0, _, _, _ => none
  | k + 1, l20, x22, a0 => (if x22 < (a0.length : Int) then (if 0 ≤ x22 then (if x22 < (a0.length : Int) then ((laws_toPose.f (rd_T105 a0 x22)).bind fun t28 => (laws_toPoseS.l0 k (l20.set (x22).toNat t28) (wrap64 (x22 + 1)) a0)) else none) else none) else (some l20))
def laws_toPoseS.f (k : Nat) (a0 : (List S105)) : Option ((List S122)) := (if 0 ≤ (a0.length : Int) then (if ((a0.length : Int)).toNat ≤ 11728124029610 then (laws_toPoseS.l0 k (List.replicate a0.length z122) 0 a0) else none) else none)
set_option maxHeartbeats 16000000 in
theorem laws_toPoseS.calls {k : Nat} {a0 : (List S105)} {Ap0 : Option Addr} {np0 cp0 : Nat} {r : (List S122)} {w : World} (h : laws_toPoseS.f k a0 = some r) (gp0 : k105.C w Ap0 np0 a0) (lp0 : np0 ≤ cp0) :
    Calls Tryz.prog 23 #[.slice Ap0 np0 cp0] w (fun e w' => ∃ v0_ : Value, e = .returned (v0_) ∧ Hp noFP w w' [.own (Zd.slice 122 q122) r [v0_]]) := by
 obtain rfl := C_len gp0
 have HS := Hp.start w
 have H := Aside0.mk h
 clear h
 unfold laws_toPoseS.f at H
 go_enter Tryz.func23, Tryz.ntmps23
 replace H := zgo H; obtain ⟨c1, H⟩ := H
 replace H := zgo H; obtain ⟨c2, H⟩ := H
 go_wp2_with (first | ((with_reducible refine gd 7 rfl ?_); refine ev_make rfl q122 z122 HS rfl (a0.length : Int) rfl rfl Tryz.underlying57 info122 rfl (by decide) (by decide) q122_zero (of_eq_true c1) (by have := of_eq_true c2; omega) ?_; clear HS; (try clear F); intro v3 w3 HS; obtain ⟨B3, d3, rfl, m3⟩ := HS.formn a0.length 0 rfl (by first | rfl | simp); (try simp only [hpn, hpm] at HS)))
 go_loopg [4] k (fun kq v_4 w' => ∃ (l20 : List S122) (x22 : Int), v_4 = .int .i64 x22 ∧ Aside0 (laws_toPoseS.l0 kq l20 x22 a0 = some r) ∧ Aside0 (kq ≤ k) ∧ Hp noFP w w' [.own (Zd.slice 122 q122) l20 [.slice B3 a0.length d3]])
 case atStart => exact ⟨_, _, rfl, H, ⟨Nat.le_refl _⟩, HS⟩
 case round =>
  clear HS H; (try clear F)
  obtain ⟨l20, x22, rfl, H, HKk19, HS⟩ := hrel
  cases gk with
  | zero => exact absurd H.out (by simp [laws_toPoseS.l0])
  | succ k19 =>
   simp only [laws_toPoseS.l0] at H
   replace H := znif H; rcases H with ⟨c24, H⟩ | ⟨c24, H⟩
   case inl =>
    obtain rfl := zsome H
    go_wp2
    exact bodyPost_ret (results_single rfl (.tmp .nil)) rfl ⟨_, rfl, HS.pick [0] (by decide) (by rfl)⟩
   replace H := zgo H; obtain ⟨c25, H⟩ := H
   replace H := zgo H; obtain ⟨c26, H⟩ := H
   obtain ⟨ad27, rfl, e27_0, e27_1⟩ := at_T105 gp0 x22 (of_eq_true c25) (of_eq_true c26)
   have e27_0_27 := (HS.keepc e27_0)
   have e27_1_27 := (HS.keepc e27_1)
   replace H := zbind H; obtain ⟨t28, ht28, H⟩ := H
   go_wp2_with (first | ((with_reducible refine gd 20 rfl ?_); refine ev_cl HS (laws_toPose.calls ht28.out) Tryz.func53 ?_; clear HS; (try clear F); intro wt28 HS F; obtain ⟨ad30, rfl, e30_0, e30_1⟩ := at_T122 (HS.rd 0 rfl) x22 (of_eq_true c25) (of_eq_true c26)) | ((with_reducible refine gate_store (p := 21) rfl ?_); refine ev_set rfl q122 0 [] x22 t28 HS (seg := [.int .i64 t28.f0, .string t28.f1]) rfl (by decide) rfl rfl rfl (by first | rfl | exact (Nat.mul_one _).symm) rfl rfl (by kernel_rfl) (by simp [Value.oneCell']) ⟨of_eq_true c25, of_eq_true c26⟩ rfl (made_flat (fun _ => q122_flat _ _ _)) ?_; clear HS; (try clear F); intro w31 HS; (try simp only [hpn, hpm] at HS)))
   go_roundg k19
   case measure => have := HKk19.out; omega
   case rel => exact ⟨_, _, rfl, H, ⟨by have := HKk19.out; omega⟩, HS.pick [0] (by decide) (by rfl)⟩
/-! ### laws_toWorld: function 6 -/
def laws_toWorld.f (k : Nat) (a0 : S40) : Option (S59) := ((laws_toServer.f k a0.f0).bind fun t7 => ((laws_toClient.f k a0.f1).bind fun t16 => ((laws_toCertS.f k a0.f2).bind fun t23 => ((laws_toLetterS.f k a0.f3).bind fun t28 => ((laws_toIntS.f k a0.f4).bind fun t33 => ((laws_toPoseS.f k a0.f5).bind fun t38 => ((laws_toStringS.f k a0.f6).bind fun t43 => ((laws_toStringS.f k a0.f7).bind fun t48 => (some (⟨(⟨(⟨t7.f0.f0, t7.f0.f1, t7.f0.f2⟩ : S47), t7.f1, t7.f2, t7.f3, t7.f4, t7.f5⟩ : S51), (⟨t16.f0, t16.f1, t16.f2, t16.f3, t16.f4⟩ : S55), t23, t28, t33, t38, t43, t48⟩ : S59))))))))))
set_option maxHeartbeats 16000000 in
theorem laws_toWorld.calls {k : Nat} {a0 : S40} {Ap0 : Option Addr} {np0 cp0 : Nat} {Ap1 : Option Addr} {np1 cp1 : Nat} {Ap2 : Option Addr} {np2 cp2 : Nat} {Ap3 : Option Addr} {np3 cp3 : Nat} {Ap4 : Option Addr} {np4 cp4 : Nat} {Ap5 : Option Addr} {np5 cp5 : Nat} {Ap6 : Option Addr} {np6 cp6 : Nat} {Ap7 : Option Addr} {np7 cp7 : Nat} {Ap8 : Option Addr} {np8 cp8 : Nat} {Ap9 : Option Addr} {np9 cp9 : Nat} {Ap10 : Option Addr} {np10 cp10 : Nat} {Ap11 : Option Addr} {np11 cp11 : Nat} {Ap12 : Option Addr} {np12 cp12 : Nat} {Ap13 : Option Addr} {np13 cp13 : Nat} {r : S59} {w : World} (h : laws_toWorld.f k a0 = some r) (gp0 : k99.C w Ap0 np0 a0.f0.f0.f0) (lp0 : np0 ≤ cp0) (gp1 : k187.C w Ap1 np1 a0.f0.f0.f1) (lp1 : np1 ≤ cp1) (gp2 : k190.C w Ap2 np2 a0.f0.f0.f2) (lp2 : np2 ≤ cp2) (gp3 : k140.C w Ap3 np3 a0.f0.f1) (lp3 : np3 ≤ cp3) (gp4 : k143.C w Ap4 np4 a0.f0.f5) (lp4 : np4 ≤ cp4) (gp5 : k146.C w Ap5 np5 a0.f1.f2) (lp5 : np5 ≤ cp5) (gp6 : k152.C w Ap6 np6 a0.f1.f3) (lp6 : np6 ≤ cp6) (gp7 : (Kd.int .i64).C w Ap7 np7 a0.f1.f4) (lp7 : np7 ≤ cp7) (gp8 : k99.C w Ap8 np8 a0.f2) (lp8 : np8 ≤ cp8) (gp9 : k102.C w Ap9 np9 a0.f3) (lp9 : np9 ≤ cp9) (gp10 : (Kd.int .i64).C w Ap10 np10 a0.f4) (lp10 : np10 ≤ cp10) (gp11 : k105.C w Ap11 np11 a0.f5) (lp11 : np11 ≤ cp11) (gp12 : Kd.string.C w Ap12 np12 a0.f6) (lp12 : np12 ≤ cp12) (gp13 : Kd.string.C w Ap13 np13 a0.f7) (lp13 : np13 ≤ cp13) :
    Calls Tryz.prog 6 #[.agg #[.slice Ap0 np0 cp0, .slice Ap1 np1 cp1, .slice Ap2 np2 cp2, .slice Ap3 np3 cp3, .int .i64 a0.f0.f2, .int .i64 a0.f0.f3, .int .i64 a0.f0.f4, .slice Ap4 np4 cp4, .string a0.f1.f0, .int .i64 a0.f1.f1, .slice Ap5 np5 cp5, .slice Ap6 np6 cp6, .slice Ap7 np7 cp7, .slice Ap8 np8 cp8, .slice Ap9 np9 cp9, .slice Ap10 np10 cp10, .slice Ap11 np11 cp11, .slice Ap12 np12 cp12, .slice Ap13 np13 cp13]] w (fun e w' => ∃ v0_ v1_ v2_ v3_ v4_ v5_ v6_ v7_ v8_ v9_ v10_ v11_ v12_ v13_ : Value, e = .returned (.agg #[v0_, v1_, v2_, v3_, .int .i64 r.f0.f2, .int .i64 r.f0.f3, .int .i64 r.f0.f4, v4_, .string r.f1.f0, .int .i64 r.f1.f1, v5_, v6_, v7_, v8_, v9_, v10_, v11_, v12_, v13_]) ∧ Hp noFP w w' [.own (Zd.slice 118 q118) r.f0.f0.f0 [v0_], .own (Zd.slice 198 q198) r.f0.f0.f1 [v1_], .own (Zd.slice 200 q200) r.f0.f0.f2 [v2_], .own (Zd.slice 165 q165) r.f0.f1 [v3_], .own (Zd.slice 167 q167) r.f0.f5 [v4_], .own (Zd.slice 169 q169) r.f1.f2 [v5_], .own (Zd.slice 76 q76) r.f1.f3 [v6_], .own (Zd.slice 3 (Zd.int .i64)) r.f1.f4 [v7_], .own (Zd.slice 118 q118) r.f2 [v8_], .own (Zd.slice 120 q120) r.f3 [v9_], .own (Zd.slice 3 (Zd.int .i64)) r.f4 [v10_], .own (Zd.slice 122 q122) r.f5 [v11_], .own (Zd.slice 9 Zd.string) r.f6 [v12_], .own (Zd.slice 9 Zd.string) r.f7 [v13_]]) := by
 obtain rfl := C_len gp0
 obtain rfl := C_len gp1
 obtain rfl := C_len gp2
 obtain rfl := C_len gp3
 obtain rfl := C_len gp4
 obtain rfl := C_len gp5
 obtain rfl := C_len gp6
 obtain rfl := C_len gp7
 obtain rfl := C_len gp8
 obtain rfl := C_len gp9
 obtain rfl := C_len gp10
 obtain rfl := C_len gp11
 obtain rfl := C_len gp12
 obtain rfl := C_len gp13
 have HS := Hp.start w
 have H := Aside0.mk h
 clear h
 unfold laws_toWorld.f at H
 go_enter Tryz.func6, Tryz.ntmps6
 replace H := zbind H; obtain ⟨t7, ht7, H⟩ := H
 replace H := zbind H; obtain ⟨t16, ht16, H⟩ := H
 replace H := zbind H; obtain ⟨t23, ht23, H⟩ := H
 replace H := zbind H; obtain ⟨t28, ht28, H⟩ := H
 replace H := zbind H; obtain ⟨t33, ht33, H⟩ := H
 replace H := zbind H; obtain ⟨t38, ht38, H⟩ := H
 replace H := zbind H; obtain ⟨t43, ht43, H⟩ := H
 replace H := zbind H; obtain ⟨t48, ht48, H⟩ := H
 obtain rfl := zsome H
 go_wp2_with (first | ((with_reducible refine gd 1 rfl ?_); refine ev_bx HS ?_; clear HS; (try clear F); intro g1 w1 HS F) | ((with_reducible refine gd 2 rfl ?_); refine ev_bx HS ?_; clear HS; (try clear F); intro g2 w2 HS F) | ((with_reducible refine gd 3 rfl ?_); refine ev_bx HS ?_; clear HS; (try clear F); intro g3 w3 HS F) | ((with_reducible refine gd 6 rfl ?_); refine ev_cl5 HS (laws_toServer.calls ht7.out (HS.ro gp0) lp0 (HS.ro gp1) lp1 (HS.ro gp2) lp2 (HS.ro gp3) lp3 (HS.ro gp4) lp4) Tryz.func18 ?_; clear HS; (try clear F); intro v8 v9 v10 v11 v12 wt7 HS F; obtain ⟨B8, d8, rfl, m8⟩ := HS.form 3 rfl; obtain ⟨B9, d9, rfl, m9⟩ := HS.form 4 rfl; obtain ⟨B10, d10, rfl, m10⟩ := HS.form 5 rfl; obtain ⟨B11, d11, rfl, m11⟩ := HS.form 6 rfl; obtain ⟨B12, d12, rfl, m12⟩ := HS.form 7 rfl) | ((with_reducible refine gate_store (p := 7) rfl ?_); refine ev_st 2 0 HS (seg := [.slice B8 t7.f0.f0.length d8, .slice B9 t7.f0.f1.length d9, .slice B10 t7.f0.f2.length d10, .slice B11 t7.f1.length d11, .int .i64 t7.f2, .int .i64 t7.f3, .int .i64 t7.f4, .slice B12 t7.f5.length d12]) ?_; clear HS; (try clear F); intro w14 HS F) | ((with_reducible refine gd 10 rfl ?_); refine ev_cl3 HS (laws_toClient.calls ht16.out (HS.ro gp5) lp5 (HS.ro gp6) lp6 (HS.ro gp7) lp7) Tryz.func19 ?_; clear HS; (try clear F); intro v17 v18 v19 wt16 HS F; obtain ⟨B17, d17, rfl, m17⟩ := HS.form 8 rfl; obtain ⟨B18, d18, rfl, m18⟩ := HS.form 9 rfl; obtain ⟨B19, d19, rfl, m19⟩ := HS.form 10 rfl) | ((with_reducible refine gate_store (p := 11) rfl ?_); refine ev_st 2 8 HS (seg := [.string t16.f0, .int .i64 t16.f1, .slice B17 t16.f2.length d17, .slice B18 t16.f3.length d18, .slice B19 t16.f4.length d19]) ?_; clear HS; (try clear F); intro w21 HS F) | ((with_reducible refine gd 14 rfl ?_); refine ev_cl1 HS (laws_toCertS.calls ht23.out (HS.ro gp8) lp8) Tryz.func20 ?_; clear HS; (try clear F); intro v24 wt23 HS F; obtain ⟨B24, d24, rfl, m24⟩ := HS.form 11 rfl) | ((with_reducible refine gate_store (p := 15) rfl ?_); refine ev_st 2 13 HS (seg := [.slice B24 t23.length d24]) ?_; clear HS; (try clear F); intro w26 HS F) | ((with_reducible refine gd 18 rfl ?_); refine ev_cl1 HS (laws_toLetterS.calls ht28.out (HS.ro gp9) lp9) Tryz.func21 ?_; clear HS; (try clear F); intro v29 wt28 HS F; obtain ⟨B29, d29, rfl, m29⟩ := HS.form 12 rfl) | ((with_reducible refine gate_store (p := 19) rfl ?_); refine ev_st 2 14 HS (seg := [.slice B29 t28.length d29]) ?_; clear HS; (try clear F); intro w31 HS F) | ((with_reducible refine gd 22 rfl ?_); refine ev_cl1 HS (laws_toIntS.calls ht33.out (HS.ro gp10) lp10) Tryz.func22 ?_; clear HS; (try clear F); intro v34 wt33 HS F; obtain ⟨B34, d34, rfl, m34⟩ := HS.form 13 rfl) | ((with_reducible refine gate_store (p := 23) rfl ?_); refine ev_st 2 15 HS (seg := [.slice B34 t33.length d34]) ?_; clear HS; (try clear F); intro w36 HS F) | ((with_reducible refine gd 26 rfl ?_); refine ev_cl1 HS (laws_toPoseS.calls ht38.out (HS.ro gp11) lp11) Tryz.func23 ?_; clear HS; (try clear F); intro v39 wt38 HS F; obtain ⟨B39, d39, rfl, m39⟩ := HS.form 14 rfl) | ((with_reducible refine gate_store (p := 27) rfl ?_); refine ev_st 2 16 HS (seg := [.slice B39 t38.length d39]) ?_; clear HS; (try clear F); intro w41 HS F) | ((with_reducible refine gd 30 rfl ?_); refine ev_cl1 HS (laws_toStringS.calls ht43.out (HS.ro gp12) lp12) Tryz.func24 ?_; clear HS; (try clear F); intro v44 wt43 HS F; obtain ⟨B44, d44, rfl, m44⟩ := HS.form 15 rfl) | ((with_reducible refine gate_store (p := 31) rfl ?_); refine ev_st 2 17 HS (seg := [.slice B44 t43.length d44]) ?_; clear HS; (try clear F); intro w46 HS F) | ((with_reducible refine gd 34 rfl ?_); refine ev_cl1 HS (laws_toStringS.calls ht48.out (HS.ro gp13) lp13) Tryz.func24 ?_; clear HS; (try clear F); intro v49 wt48 HS F; obtain ⟨B49, d49, rfl, m49⟩ := HS.form 16 rfl) | ((with_reducible refine gate_store (p := 35) rfl ?_); refine ev_st 2 18 HS (seg := [.slice B49 t48.length d49]) ?_; clear HS; (try clear F); intro w51 HS F) | ((with_reducible refine gd 36 rfl ?_); refine ev_ld 2 HS Tryz.underlying59 rfl ?_) | ((with_reducible refine gate_store (p := 2) rfl ?_); refine ev_st 1 0 HS (seg := [.slice B8 t7.f0.f0.length d8, .slice B9 t7.f0.f1.length d9, .slice B10 t7.f0.f2.length d10, .slice B11 t7.f1.length d11, .int .i64 t7.f2, .int .i64 t7.f3, .int .i64 t7.f4, .slice B12 t7.f5.length d12, .string t16.f0, .int .i64 t16.f1, .slice B17 t16.f2.length d17, .slice B18 t16.f3.length d18, .slice B19 t16.f4.length d19, .slice B24 t23.length d24, .slice B29 t28.length d29, .slice B34 t33.length d34, .slice B39 t38.length d39, .slice B44 t43.length d44, .slice B49 t48.length d49]) ?_; clear HS; (try clear F); intro w53 HS F))
 exact bodyPost_ret (results_single rfl (.cell _ _ _ _ _ rfl (HS.boxAt (i := 1) rfl) Tryz.underlying59 rfl (by kernel_rfl) .nil)) rfl ⟨_, _, _, _, _, _, _, _, _, _, _, _, _, _, rfl, HS.pick [3, 4, 5, 6, 7, 8, 9, 10, 11, 12, 13, 14, 15, 16] (by decide) (by rfl)⟩
/-! ### impl_within: function 86 -/
def impl_within.f (a0 : Int) (a1 : Int) (a2 : Int) : Option (Bool) := (if a1 ≤ a0 then (some (decide (a0 ≤ a2))) else (some false))
set_option maxHeartbeats 16000000 in
theorem impl_within.calls {a0 : Int} {a1 : Int} {a2 : Int} {r : Bool} {w : World} (h : impl_within.f a0 a1 a2 = some r) :
    Calls Tryz.prog 86 #[.int .i64 a0, .int .i64 a1, .int .i64 a2] w (fun e w' => e = .returned (.bool r) ∧ Hp noFP w w' []) := by
 have HS := Hp.start w
 have H := Aside0.mk h
 clear h
 unfold impl_within.f at H
 go_enter Tryz.func86, Tryz.ntmps86
 replace H := zif H; rcases H with ⟨c1, H⟩ | ⟨c1, H⟩
 case inl =>
  obtain rfl := zsome H
  go_wp2
  go_ret
  exact HS.pk
 obtain rfl := zsome H
 go_wp2
 go_ret
 exact HS.pk
/-! ### impl_textsOk_1: function 127 -/
def impl_textsOk_1.f (a0 : ByteArray) : Option (Bool) := (some (decide (400 < (a0.size : Int))))
set_option maxHeartbeats 16000000 in
theorem impl_textsOk_1.calls {a0 : ByteArray} {r : Bool} {w : World} (h : impl_textsOk_1.f a0 = some r) :
    Calls Tryz.prog 127 #[.string a0] w (fun e w' => e = .returned (.bool r) ∧ Hp noFP w w' []) := by
 have HS := Hp.start w
 have H := Aside0.mk h
 clear h
 unfold impl_textsOk_1.f at H
 go_enter Tryz.func127, Tryz.ntmps127
 obtain rfl := zsome H
 go_wp2
 go_ret
 exact HS.pk
/-! ### slices_IndexFunc_string_string_0: function 134 -/
def slices_IndexFunc_string_string_0.l0 : Nat → Int → (List ByteArray) → Option (Int)
  | 0, _, _ => none
  | k + 1, x4, a0 => (if x4 < (a0.length : Int) then (if 0 ≤ x4 then (if x4 < (a0.length : Int) then ((impl_textsOk_1.f (rdOf ByteArray.empty a0 x4)).bind fun t10 => (if t10 = true then (some x4) else (slices_IndexFunc_string_string_0.l0 k (wrap64 (x4 + 1)) a0))) else none) else none) else (some (-1)))
def slices_IndexFunc_string_string_0.f (k : Nat) (a0 : (List ByteArray)) : Option (Int) := (slices_IndexFunc_string_string_0.l0 k 0 a0)
set_option maxHeartbeats 16000000 in
theorem slices_IndexFunc_string_string_0.calls {k : Nat} {a0 : (List ByteArray)} {Ap0 : Option Addr} {np0 cp0 : Nat} {r : Int} {w : World} (h : slices_IndexFunc_string_string_0.f k a0 = some r) (gp0 : Kd.string.C w Ap0 np0 a0) (lp0 : np0 ≤ cp0) :
    Calls Tryz.prog 134 #[.slice Ap0 np0 cp0, .func (.func 127) #[] #[]] w (fun e w' => e = .returned (.int .i64 r) ∧ Hp noFP w w' []) := by
 obtain rfl := C_len gp0
 have HS := Hp.start w
 have H := Aside0.mk h
 clear h
 unfold slices_IndexFunc_string_string_0.f at H
 go_enter Tryz.func134, Tryz.ntmps134
 go_wp2
 go_loopg [8] k (fun kq v_8 w' => ∃ (x4 : Int), v_8 = .int .i64 x4 ∧ Aside0 (slices_IndexFunc_string_string_0.l0 kq x4 a0 = some r) ∧ Aside0 (kq ≤ k) ∧ Hp noFP w w' [])
 case atStart => exact ⟨_, rfl, H, ⟨Nat.le_refl _⟩, HS⟩
 case round =>
  clear HS H; (try clear F)
  obtain ⟨x4, rfl, H, HKk3, HS⟩ := hrel
  cases gk with
  | zero => exact absurd H.out (by simp [slices_IndexFunc_string_string_0.l0])
  | succ k3 =>
   simp only [slices_IndexFunc_string_string_0.l0] at H
   replace H := znif H; rcases H with ⟨c6, H⟩ | ⟨c6, H⟩
   case inl =>
    obtain rfl := zsome H
    go_wp2
    go_ret
    exact HS.pk
   replace H := zgo H; obtain ⟨c7, H⟩ := H
   replace H := zgo H; obtain ⟨c8, H⟩ := H
   obtain ⟨ad9, rfl, e9_0⟩ := Kd.at_string gp0 x4 (of_eq_true c7) (of_eq_true c8)
   have e9_0_9 := (HS.keepc e9_0)
   replace H := zbind H; obtain ⟨t10, ht10, H⟩ := H
   go_upto_if 16 with (first | ((with_reducible refine gd 16 rfl ?_); refine ev_callv rfl Tryz.func127 (by kernel_rfl) rfl #[.string (rdOf ByteArray.empty a0 x4)] #[.string (rdOf ByteArray.empty a0 x4)] rfl rfl (by simp only [mpn]; rfl) (by first | rfl | simp) ?_; refine (impl_textsOk_1.calls ht10.out).mono ?_; rintro _ wt10 ⟨rfl, HQ⟩; refine ⟨_, rfl, ?_⟩; replace HS := HS.call HQ; clear HQ; (try clear F); (try simp only [hpn, hpm] at HS)))
   replace H := zifb H; rcases H with ⟨c12, H⟩ | ⟨c12, H⟩
   case inl =>
    subst c12
    (try simp only [dcn, if_true, Bool.false_eq_true, if_false])
    obtain rfl := zsome H
    go_wp2
    go_ret
    exact HS.pk
   subst c12
   (try simp only [dcn, if_true, Bool.false_eq_true, if_false])
   go_wp2
   go_roundg k3
   case measure => have := HKk3.out; omega
   case rel => exact ⟨_, rfl, H, ⟨by have := HKk3.out; omega⟩, HS.pick [] (by decide) (by rfl)⟩
/-! ### slices_ContainsFunc_string_string_0: function 126 -/
def slices_ContainsFunc_string_string_0.f (k : Nat) (a0 : (List ByteArray)) : Option (Bool) := ((slices_IndexFunc_string_string_0.f k a0).bind fun t1 => (some (decide (0 ≤ t1))))
set_option maxHeartbeats 16000000 in
theorem slices_ContainsFunc_string_string_0.calls {k : Nat} {a0 : (List ByteArray)} {Ap0 : Option Addr} {np0 cp0 : Nat} {r : Bool} {w : World} (h : slices_ContainsFunc_string_string_0.f k a0 = some r) (gp0 : Kd.string.C w Ap0 np0 a0) (lp0 : np0 ≤ cp0) :
    Calls Tryz.prog 126 #[.slice Ap0 np0 cp0, .func (.func 127) #[] #[]] w (fun e w' => e = .returned (.bool r) ∧ Hp noFP w w' []) := by
 obtain rfl := C_len gp0
 have HS := Hp.start w
 have H := Aside0.mk h
 clear h
 unfold slices_ContainsFunc_string_string_0.f at H
 go_enter Tryz.func126, Tryz.ntmps126
 replace H := zbind H; obtain ⟨t1, ht1, H⟩ := H
 obtain rfl := zsome H
 go_wp2_with (first | ((with_reducible refine gd 7 rfl ?_); refine ev_cl HS (slices_IndexFunc_string_string_0.calls ht1.out (HS.ro gp0) lp0) Tryz.func134 ?_; clear HS; (try clear F); intro wt1 HS F))
 go_ret
 exact HS.pk
/-! ### impl_textsOk: function 114 -/
def impl_textsOk.f (k : Nat) (a0 : (List ByteArray)) (a1 : Int) : Option (Bool) := (if (a0.length : Int) ≤ a1 then ((slices_ContainsFunc_string_string_0.f k a0).bind fun t2 => (some (!t2))) else (some false))
set_option maxHeartbeats 16000000 in
theorem impl_textsOk.calls {k : Nat} {a0 : (List ByteArray)} {a1 : Int} {Ap0 : Option Addr} {np0 cp0 : Nat} {r : Bool} {w : World} (h : impl_textsOk.f k a0 a1 = some r) (gp0 : Kd.string.C w Ap0 np0 a0) (lp0 : np0 ≤ cp0) :
    Calls Tryz.prog 114 #[.slice Ap0 np0 cp0, .int .i64 a1] w (fun e w' => e = .returned (.bool r) ∧ Hp noFP w w' []) := by
 obtain rfl := C_len gp0
 have HS := Hp.start w
 have H := Aside0.mk h
 clear h
 unfold impl_textsOk.f at H
 go_enter Tryz.func114, Tryz.ntmps114
 replace H := znif H; rcases H with ⟨c1, H⟩ | ⟨c1, H⟩
 case inl =>
  obtain rfl := zsome H
  go_wp2
  go_ret
  exact HS.pk
 replace H := zbind H; obtain ⟨t2, ht2, H⟩ := H
 obtain rfl := zsome H
 go_wp2_with (first | ((with_reducible refine gd 11 rfl ?_); refine gate_guard (by rfl) ?_; refine ev_cl HS (slices_ContainsFunc_string_string_0.calls ht2.out (HS.ro gp0) lp0) Tryz.func126 ?_; clear HS; (try clear F); intro wt2 HS F))
 go_ret
 exact HS.pk
/-! ### impl_answerOk: function 89 -/
def impl_answerOk.f (k : Nat) (a0 : S154) : Option (Bool) := ((impl_within.f a0.f0 0 2).bind fun t3 => (if t3 = true then ((impl_within.f a0.f1 0 12).bind fun t6 => (if t6 = true then ((impl_textsOk.f k a0.f2 5).bind fun t9 => (if t9 = true then ((impl_textsOk.f k a0.f3 8).bind fun t12 => (some t12)) else (some false))) else (some false))) else (some false)))
set_option maxHeartbeats 16000000 in
theorem impl_answerOk.calls {k : Nat} {a0 : S154} {Ap0 : Option Addr} {np0 cp0 : Nat} {Ap1 : Option Addr} {np1 cp1 : Nat} {r : Bool} {w : World} (h : impl_answerOk.f k a0 = some r) (gp0 : Kd.string.C w Ap0 np0 a0.f2) (lp0 : np0 ≤ cp0) (gp1 : Kd.string.C w Ap1 np1 a0.f3) (lp1 : np1 ≤ cp1) :
    Calls Tryz.prog 89 #[.agg #[.int .i64 a0.f0, .int .i64 a0.f1, .slice Ap0 np0 cp0, .slice Ap1 np1 cp1]] w (fun e w' => e = .returned (.bool r) ∧ Hp noFP w w' []) := by
 obtain rfl := C_len gp0
 obtain rfl := C_len gp1
 have HS := Hp.start w
 have H := Aside0.mk h
 clear h
 unfold impl_answerOk.f at H
 go_enter Tryz.func89, Tryz.ntmps89
 replace H := zbind H; obtain ⟨t3, ht3, H⟩ := H
 replace H := znifb H; rcases H with ⟨c5, H⟩ | ⟨c5, H⟩
 case inl =>
  subst c5
  obtain rfl := zsome H
  go_wp2_with (first | ((with_reducible refine gd 1 rfl ?_); refine ev_bx HS ?_; clear HS; (try clear F); intro g1 w1 HS F) | ((with_reducible refine gd 5 rfl ?_); refine ev_cl HS (impl_within.calls ht3.out) Tryz.func86 ?_; clear HS; (try clear F); intro wt3 HS F))
  go_ret
  exact HS.pk
 subst c5
 replace H := zbind H; obtain ⟨t6, ht6, H⟩ := H
 replace H := znifb H; rcases H with ⟨c8, H⟩ | ⟨c8, H⟩
 case inl =>
  subst c8
  obtain rfl := zsome H
  go_wp2_with (first | ((with_reducible refine gd 1 rfl ?_); refine ev_bx HS ?_; clear HS; (try clear F); intro g1 w1 HS F) | ((with_reducible refine gd 5 rfl ?_); refine ev_cl HS (impl_within.calls ht3.out) Tryz.func86 ?_; clear HS; (try clear F); intro wt3 HS F) | ((with_reducible refine gd 9 rfl ?_); refine gate_guard (by rfl) ?_; refine ev_cl HS (impl_within.calls ht6.out) Tryz.func86 ?_; clear HS; (try clear F); intro wt6 HS F))
  go_ret
  exact HS.pk
 subst c8
 replace H := zbind H; obtain ⟨t9, ht9, H⟩ := H
 replace H := znifb H; rcases H with ⟨c11, H⟩ | ⟨c11, H⟩
 case inl =>
  subst c11
  obtain rfl := zsome H
  go_wp2_with (first | ((with_reducible refine gd 1 rfl ?_); refine ev_bx HS ?_; clear HS; (try clear F); intro g1 w1 HS F) | ((with_reducible refine gd 5 rfl ?_); refine ev_cl HS (impl_within.calls ht3.out) Tryz.func86 ?_; clear HS; (try clear F); intro wt3 HS F) | ((with_reducible refine gd 9 rfl ?_); refine gate_guard (by rfl) ?_; refine ev_cl HS (impl_within.calls ht6.out) Tryz.func86 ?_; clear HS; (try clear F); intro wt6 HS F) | ((with_reducible refine gd 14 rfl ?_); refine gate_guard (by rfl) ?_; refine ev_cl HS (impl_textsOk.calls ht9.out (HS.ro gp0) lp0) Tryz.func114 ?_; clear HS; (try clear F); intro wt9 HS F))
  go_ret
  exact HS.pk
 subst c11
 replace H := zbind H; obtain ⟨t12, ht12, H⟩ := H
 obtain rfl := zsome H
 go_wp2_with (first | ((with_reducible refine gd 1 rfl ?_); refine ev_bx HS ?_; clear HS; (try clear F); intro g1 w1 HS F) | ((with_reducible refine gd 5 rfl ?_); refine ev_cl HS (impl_within.calls ht3.out) Tryz.func86 ?_; clear HS; (try clear F); intro wt3 HS F) | ((with_reducible refine gd 9 rfl ?_); refine gate_guard (by rfl) ?_; refine ev_cl HS (impl_within.calls ht6.out) Tryz.func86 ?_; clear HS; (try clear F); intro wt6 HS F) | ((with_reducible refine gd 14 rfl ?_); refine gate_guard (by rfl) ?_; refine ev_cl HS (impl_textsOk.calls ht9.out (HS.ro gp0) lp0) Tryz.func114 ?_; clear HS; (try clear F); intro wt9 HS F) | ((with_reducible refine gd 19 rfl ?_); refine gate_guard (by rfl) ?_; refine ev_cl HS (impl_textsOk.calls ht12.out (HS.ro gp1) lp1) Tryz.func114 ?_; clear HS; (try clear F); intro wt12 HS F))
 go_ret
 exact HS.pk
/-! ### impl_ReplyOk_1: function 88 -/
def impl_ReplyOk_1.f (k : Nat) (a0 : S154) : Option (Bool) := ((impl_answerOk.f k a0).bind fun t3 => (some (!t3)))
set_option maxHeartbeats 16000000 in
theorem impl_ReplyOk_1.calls {k : Nat} {a0 : S154} {Ap0 : Option Addr} {np0 cp0 : Nat} {Ap1 : Option Addr} {np1 cp1 : Nat} {r : Bool} {w : World} (h : impl_ReplyOk_1.f k a0 = some r) (gp0 : Kd.string.C w Ap0 np0 a0.f2) (lp0 : np0 ≤ cp0) (gp1 : Kd.string.C w Ap1 np1 a0.f3) (lp1 : np1 ≤ cp1) :
    Calls Tryz.prog 88 #[.agg #[.int .i64 a0.f0, .int .i64 a0.f1, .slice Ap0 np0 cp0, .slice Ap1 np1 cp1]] w (fun e w' => e = .returned (.bool r) ∧ Hp noFP w w' []) := by
 obtain rfl := C_len gp0
 obtain rfl := C_len gp1
 have HS := Hp.start w
 have H := Aside0.mk h
 clear h
 unfold impl_ReplyOk_1.f at H
 go_enter Tryz.func88, Tryz.ntmps88
 replace H := zbind H; obtain ⟨t3, ht3, H⟩ := H
 obtain rfl := zsome H
 go_wp2_with (first | ((with_reducible refine gd 1 rfl ?_); refine ev_bx HS ?_; clear HS; (try clear F); intro g1 w1 HS F) | ((with_reducible refine gd 4 rfl ?_); refine ev_cl HS (impl_answerOk.calls ht3.out (HS.ro gp0) lp0 (HS.ro gp1) lp1) Tryz.func89 ?_; clear HS; (try clear F); intro wt3 HS F))
 go_ret
 exact HS.pk
/-! ### impl_Answer_113_0: function 113 -/
def impl_Answer_113_0.l0 : Nat → Int → (List S154) → Option (Int)
  | 0, _, _ => none
  | k + 1, x4, a0 => (if x4 < (a0.length : Int) then (if 0 ≤ x4 then (if x4 < (a0.length : Int) then ((impl_ReplyOk_1.f k (rd_T154 a0 x4)).bind fun t10 => (if t10 = true then (some x4) else (impl_Answer_113_0.l0 k (wrap64 (x4 + 1)) a0))) else none) else none) else (some (-1)))
def impl_Answer_113_0.f (k : Nat) (a0 : (List S154)) : Option (Int) := (impl_Answer_113_0.l0 k 0 a0)
set_option maxHeartbeats 16000000 in
theorem impl_Answer_113_0.calls {k : Nat} {a0 : (List S154)} {Ap0 : Option Addr} {np0 cp0 : Nat} {r : Int} {w : World} (h : impl_Answer_113_0.f k a0 = some r) (gp0 : k154.C w Ap0 np0 a0) (lp0 : np0 ≤ cp0) :
    Calls Tryz.prog 113 #[.slice Ap0 np0 cp0, .func (.func 88) #[] #[]] w (fun e w' => e = .returned (.int .i64 r) ∧ Hp noFP w w' []) := by
 obtain rfl := C_len gp0
 have HS := Hp.start w
 have H := Aside0.mk h
 clear h
 unfold impl_Answer_113_0.f at H
 go_enter Tryz.func113, Tryz.ntmps113
 go_wp2
 go_loopg [8] k (fun kq v_8 w' => ∃ (x4 : Int), v_8 = .int .i64 x4 ∧ Aside0 (impl_Answer_113_0.l0 kq x4 a0 = some r) ∧ Aside0 (kq ≤ k) ∧ Hp noFP w w' [])
 case atStart => exact ⟨_, rfl, H, ⟨Nat.le_refl _⟩, HS⟩
 case round =>
  clear HS H; (try clear F)
  obtain ⟨x4, rfl, H, HKk3, HS⟩ := hrel
  cases gk with
  | zero => exact absurd H.out (by simp [impl_Answer_113_0.l0])
  | succ k3 =>
   simp only [impl_Answer_113_0.l0] at H
   replace H := znif H; rcases H with ⟨c6, H⟩ | ⟨c6, H⟩
   case inl =>
    obtain rfl := zsome H
    go_wp2
    go_ret
    exact HS.pk
   replace H := zgo H; obtain ⟨c7, H⟩ := H
   replace H := zgo H; obtain ⟨c8, H⟩ := H
   obtain ⟨ad9, B9_2, d9_2, B9_3, d9_3, rfl, e9_0, e9_1, e9_2, e9_3, m9_2, y9_2, m9_3, y9_3⟩ := at_T154 gp0 x4 (of_eq_true c7) (of_eq_true c8)
   have e9_0_9 := (HS.keepc e9_0)
   have e9_1_9 := (HS.keepc e9_1)
   have e9_2_9 := (HS.keepc e9_2)
   have e9_3_9 := (HS.keepc e9_3)
   replace H := zbind H; obtain ⟨t10, ht10, H⟩ := H
   go_upto_if 16 with (first | ((with_reducible refine gd 16 rfl ?_); refine ev_callv rfl Tryz.func88 (by kernel_rfl) rfl #[.agg #[.int .i64 ((rd_T154 a0 x4).f0), .int .i64 ((rd_T154 a0 x4).f1), .slice B9_2 (rd_T154 a0 x4).f2.length d9_2, .slice B9_3 (rd_T154 a0 x4).f3.length d9_3]] #[.agg #[.int .i64 ((rd_T154 a0 x4).f0), .int .i64 ((rd_T154 a0 x4).f1), .slice B9_2 (rd_T154 a0 x4).f2.length d9_2, .slice B9_3 (rd_T154 a0 x4).f3.length d9_3]] rfl rfl (by simp only [mpn]; rfl) (by first | rfl | simp) ?_; refine (impl_ReplyOk_1.calls ht10.out (HS.ro y9_2) m9_2 (HS.ro y9_3) m9_3).mono ?_; rintro _ wt10 ⟨rfl, HQ⟩; refine ⟨_, rfl, ?_⟩; replace HS := HS.call HQ; clear HQ; (try clear F); (try simp only [hpn, hpm] at HS)))
   replace H := zifb H; rcases H with ⟨c12, H⟩ | ⟨c12, H⟩
   case inl =>
    subst c12
    (try simp only [dcn, if_true, Bool.false_eq_true, if_false])
    obtain rfl := zsome H
    go_wp2
    go_ret
    exact HS.pk
   subst c12
   (try simp only [dcn, if_true, Bool.false_eq_true, if_false])
   go_wp2
   go_roundg k3
   case measure => have := HKk3.out; omega
   case rel => exact ⟨_, rfl, H, ⟨by have := HKk3.out; omega⟩, HS.pick [] (by decide) (by rfl)⟩
/-! ### impl_Answer_87_0: function 87 -/
def impl_Answer_87_0.f (k : Nat) (a0 : (List S154)) : Option (Bool) := ((impl_Answer_113_0.f k a0).bind fun t1 => (some (decide (0 ≤ t1))))
set_option maxHeartbeats 16000000 in
theorem impl_Answer_87_0.calls {k : Nat} {a0 : (List S154)} {Ap0 : Option Addr} {np0 cp0 : Nat} {r : Bool} {w : World} (h : impl_Answer_87_0.f k a0 = some r) (gp0 : k154.C w Ap0 np0 a0) (lp0 : np0 ≤ cp0) :
    Calls Tryz.prog 87 #[.slice Ap0 np0 cp0, .func (.func 88) #[] #[]] w (fun e w' => e = .returned (.bool r) ∧ Hp noFP w w' []) := by
 obtain rfl := C_len gp0
 have HS := Hp.start w
 have H := Aside0.mk h
 clear h
 unfold impl_Answer_87_0.f at H
 go_enter Tryz.func87, Tryz.ntmps87
 replace H := zbind H; obtain ⟨t1, ht1, H⟩ := H
 obtain rfl := zsome H
 go_wp2_with (first | ((with_reducible refine gd 7 rfl ?_); refine ev_cl HS (impl_Answer_113_0.calls ht1.out (HS.ro gp0) lp0) Tryz.func113 ?_; clear HS; (try clear F); intro wt1 HS F))
 go_ret
 exact HS.pk
/-! ### impl_ReplyOk: function 54 -/
def impl_ReplyOk.f (k : Nat) (a0 : S74) : Option (Bool) := (if (a0.f0.size : Int) = 32 then ((impl_within.f a0.f1 0 1000000000).bind fun t4 => (if t4 = true then ((impl_within.f a0.f2 0 19999).bind fun t7 => (if t7 = true then ((impl_within.f a0.f3 0 19999).bind fun t10 => (if t10 = true then ((impl_within.f a0.f4 0 99).bind fun t13 => (if t13 = true then ((impl_within.f a0.f5 0 2).bind fun t16 => (if t16 = true then (if 3 < (a0.f6.length : Int) then (some false) else (if (a0.f7.size : Int) = 15 then ((impl_Answer_87_0.f k a0.f6).bind fun t21 => (some (!t21))) else (some false))) else (some false))) else (some false))) else (some false))) else (some false))) else (some false))) else (some false))
set_option maxHeartbeats 16000000 in
theorem impl_ReplyOk.calls {k : Nat} {a0 : S74} {Ap0 : Option Addr} {np0 cp0 : Nat} {r : Bool} {w : World} (h : impl_ReplyOk.f k a0 = some r) (gp0 : k154.C w Ap0 np0 a0.f6) (lp0 : np0 ≤ cp0) :
    Calls Tryz.prog 54 #[.agg #[.string a0.f0, .int .i64 a0.f1, .int .i64 a0.f2, .int .i64 a0.f3, .int .i64 a0.f4, .int .i64 a0.f5, .slice Ap0 np0 cp0, .string a0.f7]] w (fun e w' => e = .returned (.bool r) ∧ Hp noFP w w' []) := by
 obtain rfl := C_len gp0
 have HS := Hp.start w
 have H := Aside0.mk h
 clear h
 unfold impl_ReplyOk.f at H
 go_enter Tryz.func54, Tryz.ntmps54
 replace H := znif' H; rcases H with ⟨c3, H⟩ | ⟨c3, H⟩
 case inl =>
  have c3a := beq_eq_false_iff_ne.mpr c3
  have c3b := bne_iff_ne.mpr c3
  clear c3
  obtain rfl := zsome H
  go_wp2_with (first | ((with_reducible refine gd 1 rfl ?_); refine ev_bx HS ?_; clear HS; (try clear F); intro g1 w1 HS F))
  go_ret
  exact HS.pk
 have c3a := beq_iff_eq.mpr c3
 have c3b := bne_eq_false_iff_eq.mpr c3
 clear c3
 replace H := zbind H; obtain ⟨t4, ht4, H⟩ := H
 replace H := znifb H; rcases H with ⟨c6, H⟩ | ⟨c6, H⟩
 case inl =>
  subst c6
  obtain rfl := zsome H
  go_wp2_with (first | ((with_reducible refine gd 1 rfl ?_); refine ev_bx HS ?_; clear HS; (try clear F); intro g1 w1 HS F) | ((with_reducible refine gd 10 rfl ?_); refine gate_guard (by rfl) ?_; refine ev_cl HS (impl_within.calls ht4.out) Tryz.func86 ?_; clear HS; (try clear F); intro wt4 HS F))
  go_ret
  exact HS.pk
 subst c6
 replace H := zbind H; obtain ⟨t7, ht7, H⟩ := H
 replace H := znifb H; rcases H with ⟨c9, H⟩ | ⟨c9, H⟩
 case inl =>
  subst c9
  obtain rfl := zsome H
  go_wp2_with (first | ((with_reducible refine gd 1 rfl ?_); refine ev_bx HS ?_; clear HS; (try clear F); intro g1 w1 HS F) | ((with_reducible refine gd 10 rfl ?_); refine gate_guard (by rfl) ?_; refine ev_cl HS (impl_within.calls ht4.out) Tryz.func86 ?_; clear HS; (try clear F); intro wt4 HS F) | ((with_reducible refine gd 16 rfl ?_); refine gate_guard (by rfl) ?_; refine ev_cl HS (impl_within.calls ht7.out) Tryz.func86 ?_; clear HS; (try clear F); intro wt7 HS F))
  go_ret
  exact HS.pk
 subst c9
 replace H := zbind H; obtain ⟨t10, ht10, H⟩ := H
 replace H := znifb H; rcases H with ⟨c12, H⟩ | ⟨c12, H⟩
 case inl =>
  subst c12
  obtain rfl := zsome H
  go_wp2_with (first | ((with_reducible refine gd 1 rfl ?_); refine ev_bx HS ?_; clear HS; (try clear F); intro g1 w1 HS F) | ((with_reducible refine gd 10 rfl ?_); refine gate_guard (by rfl) ?_; refine ev_cl HS (impl_within.calls ht4.out) Tryz.func86 ?_; clear HS; (try clear F); intro wt4 HS F) | ((with_reducible refine gd 16 rfl ?_); refine gate_guard (by rfl) ?_; refine ev_cl HS (impl_within.calls ht7.out) Tryz.func86 ?_; clear HS; (try clear F); intro wt7 HS F) | ((with_reducible refine gd 22 rfl ?_); refine gate_guard (by rfl) ?_; refine ev_cl HS (impl_within.calls ht10.out) Tryz.func86 ?_; clear HS; (try clear F); intro wt10 HS F))
  go_ret
  exact HS.pk
 subst c12
 replace H := zbind H; obtain ⟨t13, ht13, H⟩ := H
 replace H := znifb H; rcases H with ⟨c15, H⟩ | ⟨c15, H⟩
 case inl =>
  subst c15
  obtain rfl := zsome H
  go_wp2_with (first | ((with_reducible refine gd 1 rfl ?_); refine ev_bx HS ?_; clear HS; (try clear F); intro g1 w1 HS F) | ((with_reducible refine gd 10 rfl ?_); refine gate_guard (by rfl) ?_; refine ev_cl HS (impl_within.calls ht4.out) Tryz.func86 ?_; clear HS; (try clear F); intro wt4 HS F) | ((with_reducible refine gd 16 rfl ?_); refine gate_guard (by rfl) ?_; refine ev_cl HS (impl_within.calls ht7.out) Tryz.func86 ?_; clear HS; (try clear F); intro wt7 HS F) | ((with_reducible refine gd 22 rfl ?_); refine gate_guard (by rfl) ?_; refine ev_cl HS (impl_within.calls ht10.out) Tryz.func86 ?_; clear HS; (try clear F); intro wt10 HS F) | ((with_reducible refine gd 28 rfl ?_); refine gate_guard (by rfl) ?_; refine ev_cl HS (impl_within.calls ht13.out) Tryz.func86 ?_; clear HS; (try clear F); intro wt13 HS F))
  go_ret
  exact HS.pk
 subst c15
 replace H := zbind H; obtain ⟨t16, ht16, H⟩ := H
 replace H := znifb H; rcases H with ⟨c18, H⟩ | ⟨c18, H⟩
 case inl =>
  subst c18
  obtain rfl := zsome H
  go_wp2_with (first | ((with_reducible refine gd 1 rfl ?_); refine ev_bx HS ?_; clear HS; (try clear F); intro g1 w1 HS F) | ((with_reducible refine gd 10 rfl ?_); refine gate_guard (by rfl) ?_; refine ev_cl HS (impl_within.calls ht4.out) Tryz.func86 ?_; clear HS; (try clear F); intro wt4 HS F) | ((with_reducible refine gd 16 rfl ?_); refine gate_guard (by rfl) ?_; refine ev_cl HS (impl_within.calls ht7.out) Tryz.func86 ?_; clear HS; (try clear F); intro wt7 HS F) | ((with_reducible refine gd 22 rfl ?_); refine gate_guard (by rfl) ?_; refine ev_cl HS (impl_within.calls ht10.out) Tryz.func86 ?_; clear HS; (try clear F); intro wt10 HS F) | ((with_reducible refine gd 28 rfl ?_); refine gate_guard (by rfl) ?_; refine ev_cl HS (impl_within.calls ht13.out) Tryz.func86 ?_; clear HS; (try clear F); intro wt13 HS F) | ((with_reducible refine gd 34 rfl ?_); refine gate_guard (by rfl) ?_; refine ev_cl HS (impl_within.calls ht16.out) Tryz.func86 ?_; clear HS; (try clear F); intro wt16 HS F))
  go_ret
  exact HS.pk
 subst c18
 replace H := zif H; rcases H with ⟨c19, H⟩ | ⟨c19, H⟩
 case inl =>
  obtain rfl := zsome H
  go_wp2_with (first | ((with_reducible refine gd 1 rfl ?_); refine ev_bx HS ?_; clear HS; (try clear F); intro g1 w1 HS F) | ((with_reducible refine gd 10 rfl ?_); refine gate_guard (by rfl) ?_; refine ev_cl HS (impl_within.calls ht4.out) Tryz.func86 ?_; clear HS; (try clear F); intro wt4 HS F) | ((with_reducible refine gd 16 rfl ?_); refine gate_guard (by rfl) ?_; refine ev_cl HS (impl_within.calls ht7.out) Tryz.func86 ?_; clear HS; (try clear F); intro wt7 HS F) | ((with_reducible refine gd 22 rfl ?_); refine gate_guard (by rfl) ?_; refine ev_cl HS (impl_within.calls ht10.out) Tryz.func86 ?_; clear HS; (try clear F); intro wt10 HS F) | ((with_reducible refine gd 28 rfl ?_); refine gate_guard (by rfl) ?_; refine ev_cl HS (impl_within.calls ht13.out) Tryz.func86 ?_; clear HS; (try clear F); intro wt13 HS F) | ((with_reducible refine gd 34 rfl ?_); refine gate_guard (by rfl) ?_; refine ev_cl HS (impl_within.calls ht16.out) Tryz.func86 ?_; clear HS; (try clear F); intro wt16 HS F))
  go_ret
  exact HS.pk
 go_upto_if 48 with (first | ((with_reducible refine gd 1 rfl ?_); refine ev_bx HS ?_; clear HS; (try clear F); intro g1 w1 HS F) | ((with_reducible refine gd 10 rfl ?_); refine gate_guard (by rfl) ?_; refine ev_cl HS (impl_within.calls ht4.out) Tryz.func86 ?_; clear HS; (try clear F); intro wt4 HS F) | ((with_reducible refine gd 16 rfl ?_); refine gate_guard (by rfl) ?_; refine ev_cl HS (impl_within.calls ht7.out) Tryz.func86 ?_; clear HS; (try clear F); intro wt7 HS F) | ((with_reducible refine gd 22 rfl ?_); refine gate_guard (by rfl) ?_; refine ev_cl HS (impl_within.calls ht10.out) Tryz.func86 ?_; clear HS; (try clear F); intro wt10 HS F) | ((with_reducible refine gd 28 rfl ?_); refine gate_guard (by rfl) ?_; refine ev_cl HS (impl_within.calls ht13.out) Tryz.func86 ?_; clear HS; (try clear F); intro wt13 HS F) | ((with_reducible refine gd 34 rfl ?_); refine gate_guard (by rfl) ?_; refine ev_cl HS (impl_within.calls ht16.out) Tryz.func86 ?_; clear HS; (try clear F); intro wt16 HS F))
 replace H := znif' H; rcases H with ⟨c20, H⟩ | ⟨c20, H⟩
 case inl =>
  have c20a := beq_eq_false_iff_ne.mpr c20
  have c20b := bne_iff_ne.mpr c20
  clear c20
  (try simp only [c20a, c20b, dcn])
  obtain rfl := zsome H
  go_wp2
  go_ret
  exact HS.pk
 have c20a := beq_iff_eq.mpr c20
 have c20b := bne_eq_false_iff_eq.mpr c20
 clear c20
 (try simp only [c20a, c20b, dcn])
 replace H := zbind H; obtain ⟨t21, ht21, H⟩ := H
 obtain rfl := zsome H
 go_wp2_with (first | ((with_reducible refine gd 51 rfl ?_); refine ev_cl HS (impl_Answer_87_0.calls ht21.out (HS.ro gp0) lp0) Tryz.func87 ?_; clear HS; (try clear F); intro wt21 HS F))
 go_ret
 exact HS.pk
/-! ### impl_bytesIn: function 128 -/
def impl_bytesIn.l0 : Nat → Int → ByteArray → Int → Int → Option (Bool)
  | 0, _, _, _, _ => none
  | k + 1, x4, a0, a1, a2 => (if x4 < (a0.size : Int) then (if 0 ≤ x4 then (if x4 < (a0.size : Int) then ((impl_within.f (wrap64 (bt a0 x4)) a1 a2).bind fun t10 => (if t10 = true then (impl_bytesIn.l0 k (wrap64 (x4 + 1)) a0 a1 a2) else (some false))) else none) else none) else (some true))
def impl_bytesIn.f (k : Nat) (a0 : ByteArray) (a1 : Int) (a2 : Int) : Option (Bool) := (impl_bytesIn.l0 k 0 a0 a1 a2)
set_option maxHeartbeats 16000000 in
theorem impl_bytesIn.calls {k : Nat} {a0 : ByteArray} {a1 : Int} {a2 : Int} {r : Bool} {w : World} (h : impl_bytesIn.f k a0 a1 a2 = some r) :
    Calls Tryz.prog 128 #[.string a0, .int .i64 a1, .int .i64 a2] w (fun e w' => e = .returned (.bool r) ∧ Hp noFP w w' []) := by
 have HS := Hp.start w
 have H := Aside0.mk h
 clear h
 unfold impl_bytesIn.f at H
 go_enter Tryz.func128, Tryz.ntmps128
 go_wp2
 go_loopg [7] k (fun kq v_7 w' => ∃ (x4 : Int), v_7 = .int .i64 x4 ∧ Aside0 (impl_bytesIn.l0 kq x4 a0 a1 a2 = some r) ∧ Aside0 (kq ≤ k) ∧ Hp noFP w w' [])
 case atStart => exact ⟨_, rfl, H, ⟨Nat.le_refl _⟩, HS⟩
 case round =>
  clear HS H; (try clear F)
  obtain ⟨x4, rfl, H, HKk3, HS⟩ := hrel
  cases gk with
  | zero => exact absurd H.out (by simp [impl_bytesIn.l0])
  | succ k3 =>
   simp only [impl_bytesIn.l0] at H
   replace H := znif H; rcases H with ⟨c6, H⟩ | ⟨c6, H⟩
   case inl =>
    obtain rfl := zsome H
    go_wp2
    go_ret
    exact HS.pk
   replace H := zgo H; obtain ⟨c7, H⟩ := H
   replace H := zgo H; obtain ⟨c8, H⟩ := H
   have hx9 := bt_at a0 x4
   replace H := zbind H; obtain ⟨t10, ht10, H⟩ := H
   go_upto_if 21 with (first | ((with_reducible refine gd 20 rfl ?_); refine ev_cl HS (impl_within.calls ht10.out) Tryz.func86 ?_; clear HS; (try clear F); intro wt10 HS F))
   replace H := znifb H; rcases H with ⟨c12, H⟩ | ⟨c12, H⟩
   case inl =>
    subst c12
    (try simp only [dcn, if_true, Bool.false_eq_true, if_false])
    obtain rfl := zsome H
    go_wp2
    go_ret
    exact HS.pk
   subst c12
   (try simp only [dcn, if_true, Bool.false_eq_true, if_false])
   go_wp2
   go_roundg k3
   case measure => have := HKk3.out; omega
   case rel => exact ⟨_, rfl, H, ⟨by have := HKk3.out; omega⟩, HS.pick [] (by decide) (by rfl)⟩
/-! ### impl_itemOk: function 115 -/
mutual
def impl_itemOk.l0 : Nat → Int → S110 → Int → Option (Bool)
  | 0, _, _, _ => none
  | k + 1, x10, a0, a1 => (if x10 < (a0.f2.length : Int) then (if 0 ≤ x10 then (if x10 < (a0.f2.length : Int) then ((impl_itemOk.f k (rd_T110 a0.f2 x10) (wrap64 (a1 + 1))).bind fun t20 => (if t20 = true then (impl_itemOk.l0 k (wrap64 (x10 + 1)) a0 a1) else (some false))) else none) else none) else (some true))
def impl_itemOk.f : Nat → S110 → Int → Option (Bool)
  | 0, _, _ => none
  | k + 1, a0, a1 => (if a0.f0 = 48 then (if a0.f1.toList = ([] : List UInt8) then (if 40 < (a0.f2.length : Int) then (some false) else (if 6 ≤ a1 then (some false) else (impl_itemOk.l0 k 0 a0 a1))) else (some false)) else (if 0 < (a0.f2.length : Int) then (some false) else (if a0.f0 = 1 then (if a0.f1.toList = ([0] : List UInt8) then (some true) else (some (a0.f1.toList == ([255] : List UInt8)))) else (if a0.f0 = 2 then ((impl_within.f (a0.f1.size : Int) 1 5).bind fun t27 => (if t27 = true then (if 0 < (a0.f1.size : Int) then (if (bt a0.f1 0) < 128 then (if (bt a0.f1 0) = 0 then (if (a0.f1.size : Int) = 1 then (some true) else (if 1 < (a0.f1.size : Int) then (some (decide (128 ≤ (bt a0.f1 1)))) else none)) else (some true)) else (some false)) else none) else (some false))) else (if a0.f0 = 4 then (some true) else (if a0.f0 = 12 then ((impl_bytesIn.f k a0.f1 32 126).bind fun t43 => (some t43)) else (some false)))))))
end
set_option maxHeartbeats 16000000 in
theorem impl_itemOk.calls_ (K : Nat) : ∀ {k : Nat} (hK : k ≤ K) {a0 : S110} {a1 : Int} {Ap0 : Option Addr} {np0 cp0 : Nat} {r : Bool} {w : World} (h : impl_itemOk.f k a0 a1 = some r) (gp0 : k110.C w Ap0 np0 a0.f2) (lp0 : np0 ≤ cp0),
    Calls Tryz.prog 115 #[.agg #[.int .i64 a0.f0, .string a0.f1, .slice Ap0 np0 cp0], .int .i64 a1] w (fun e w' => e = .returned (.bool r) ∧ Hp noFP w w' []) := by
  induction K with
  | zero =>
    intro k hK a0 a1 Ap0 np0 cp0 r w h gp0 lp0
    obtain rfl : k = 0 := by omega
    exact absurd h (by simp [impl_itemOk.f])
  | succ K IH =>
    intro k hK a0 a1 Ap0 np0 cp0 r w h gp0 lp0
    cases k with
    | zero => exact absurd h (by simp [impl_itemOk.f])
    | succ k =>
    have HK0 : Aside0 (k ≤ K) := ⟨by omega⟩
    clear hK
    obtain rfl := C_len gp0
    have HS := Hp.start w
    have H := Aside0.mk h
    clear h
    simp only [impl_itemOk.f] at H
    go_enter Tryz.func115, Tryz.ntmps115
    go_upto_if 10 with (first | ((with_reducible refine gd 2 rfl ?_); refine ev_bx HS ?_; clear HS; (try clear F); intro g2 w2 HS F))
    replace H := zif' H; rcases H with ⟨c3, H⟩ | ⟨c3, H⟩
    case inl =>
     have c3a := beq_iff_eq.mpr c3
     have c3b := bne_eq_false_iff_eq.mpr c3
     clear c3
     (try simp only [c3a, c3b, dcn])
     replace H := znif' H; rcases H with ⟨c4, H⟩ | ⟨c4, H⟩
     case inl =>
      have c4a := beq_eq_false_iff_ne.mpr c4
      have c4b := bne_iff_ne.mpr c4
      have c4e := List.isEmpty_eq_false_iff.mpr c4
      clear c4
      obtain rfl := zsome H
      go_wp2
      go_ret
      exact HS.pk
     have c4a := beq_iff_eq.mpr c4
     have c4b := bne_eq_false_iff_eq.mpr c4
     have c4e := List.isEmpty_iff.mpr c4
     clear c4
     replace H := zif H; rcases H with ⟨c5, H⟩ | ⟨c5, H⟩
     case inl =>
      obtain rfl := zsome H
      go_wp2
      go_ret
      exact HS.pk
     replace H := zif H; rcases H with ⟨c6, H⟩ | ⟨c6, H⟩
     case inl =>
      obtain rfl := zsome H
      go_wp2
      go_ret
      exact HS.pk
     go_wp2
     go_loopg [27] k (fun kq v_27 w' => ∃ (x10 : Int), v_27 = .int .i64 x10 ∧ Aside0 (impl_itemOk.l0 kq x10 a0 a1 = some r) ∧ Aside0 (kq ≤ k) ∧ Hp noFP w w' [.box g2 [.int .i64 a0.f0, .string a0.f1, .slice Ap0 a0.f2.length cp0] 110])
     case atStart => exact ⟨_, rfl, H, ⟨Nat.le_refl _⟩, HS⟩
     case round =>
      clear HS H; (try clear F)
      obtain ⟨x10, rfl, H, HKk9, HS⟩ := hrel
      have F := HS.boxes; simp only [bxn] at F
      cases gk with
      | zero => exact absurd H.out (by simp [impl_itemOk.l0])
      | succ k9 =>
       simp only [impl_itemOk.l0] at H
       replace H := znif H; rcases H with ⟨c12, H⟩ | ⟨c12, H⟩
       case inl =>
        obtain rfl := zsome H
        go_wp2
        go_ret
        exact HS.pk
       replace H := zgo H; obtain ⟨c13, H⟩ := H
       replace H := zgo H; obtain ⟨c14, H⟩ := H
       obtain ⟨ad15, B15_2, d15_2, rfl, e15_0, e15_1, e15_2, m15_2, y15_2⟩ := at_T110 gp0 x10 (of_eq_true c13) (of_eq_true c14)
       have e15_0_15 := (HS.keepc e15_0)
       have e15_1_15 := (HS.keepc e15_1)
       have e15_2_15 := (HS.keepc e15_2)
       replace H := zbind H; obtain ⟨t20, ht20, H⟩ := H
       go_upto_if 35 with (first | ((with_reducible refine gd 6 rfl ?_); refine ev_bx HS ?_; clear HS; (try clear F); intro g6 w6 HS F) | ((with_reducible refine gate_store (p := 6) rfl ?_); refine ev_st 1 0 HS (seg := [.int .i64 ((rd_T110 a0.f2 x10).f0), .string ((rd_T110 a0.f2 x10).f1), .slice B15_2 (rd_T110 a0.f2 x10).f2.length d15_2]) ?_; clear HS; (try clear F); intro w18 HS F) | ((with_reducible refine gd 34 rfl ?_); refine ev_cl HS (IH (by have := HK0.out; have := HKk9.out; omega) ht20.out (HS.ro y15_2) m15_2) Tryz.func115 ?_; clear HS; (try clear F); intro wt20 HS F))
       replace H := znifb H; rcases H with ⟨c22, H⟩ | ⟨c22, H⟩
       case inl =>
        subst c22
        (try simp only [dcn, if_true, Bool.false_eq_true, if_false])
        obtain rfl := zsome H
        go_wp2
        go_ret
        exact HS.pk
       subst c22
       (try simp only [dcn, if_true, Bool.false_eq_true, if_false])
       go_wp2
       go_roundg k9
       case measure => have := HK0.out; have := HKk9.out; omega
       case rel => exact ⟨_, rfl, H, ⟨by have := HK0.out; have := HKk9.out; omega⟩, HS.pick [0] (by decide) (by rfl)⟩
    have c3a := beq_eq_false_iff_ne.mpr c3
    have c3b := bne_iff_ne.mpr c3
    clear c3
    (try simp only [c3a, c3b, dcn])
    replace H := zif H; rcases H with ⟨c23, H⟩ | ⟨c23, H⟩
    case inl =>
     have c23n := (propext (Int.natCast_pos (n := a0.f2.length))).symm.trans c23
     obtain rfl := zsome H
     go_wp2
     go_ret
     exact HS.pk
    have c23n := (propext (Int.natCast_pos (n := a0.f2.length))).symm.trans c23
    replace H := zif' H; rcases H with ⟨c24, H⟩ | ⟨c24, H⟩
    case inl =>
     have c24a := beq_iff_eq.mpr c24
     have c24b := bne_eq_false_iff_eq.mpr c24
     clear c24
     replace H := znif' H; rcases H with ⟨c25, H⟩ | ⟨c25, H⟩
     case inl =>
      have c25a := beq_eq_false_iff_ne.mpr c25
      have c25b := bne_iff_ne.mpr c25
      clear c25
      obtain rfl := zsome H
      go_wp2
      go_ret
      exact HS.pk
     have c25a := beq_iff_eq.mpr c25
     have c25b := bne_eq_false_iff_eq.mpr c25
     clear c25
     obtain rfl := zsome H
     go_wp2
     go_ret
     exact HS.pk
    have c24a := beq_eq_false_iff_ne.mpr c24
    have c24b := bne_iff_ne.mpr c24
    clear c24
    replace H := znif' H; rcases H with ⟨c26, H⟩ | ⟨c26, H⟩
    case inl =>
     have c26a := beq_eq_false_iff_ne.mpr c26
     have c26b := bne_iff_ne.mpr c26
     clear c26
     replace H := zif' H; rcases H with ⟨c41, H⟩ | ⟨c41, H⟩
     case inl =>
      have c41a := beq_iff_eq.mpr c41
      have c41b := bne_eq_false_iff_eq.mpr c41
      clear c41
      obtain rfl := zsome H
      go_wp2
      go_ret
      exact HS.pk
     have c41a := beq_eq_false_iff_ne.mpr c41
     have c41b := bne_iff_ne.mpr c41
     clear c41
     replace H := znif' H; rcases H with ⟨c42, H⟩ | ⟨c42, H⟩
     case inl =>
      have c42a := beq_eq_false_iff_ne.mpr c42
      have c42b := bne_iff_ne.mpr c42
      clear c42
      obtain rfl := zsome H
      go_wp2
      go_ret
      exact HS.pk
     have c42a := beq_iff_eq.mpr c42
     have c42b := bne_eq_false_iff_eq.mpr c42
     clear c42
     replace H := zbind H; obtain ⟨t43, ht43, H⟩ := H
     obtain rfl := zsome H
     go_wp2_with (first | ((with_reducible refine gd 88 rfl ?_); refine ev_cl HS (impl_bytesIn.calls ht43.out) Tryz.func128 ?_; clear HS; (try clear F); intro wt43 HS F))
     go_ret
     exact HS.pk
    have c26a := beq_iff_eq.mpr c26
    have c26b := bne_eq_false_iff_eq.mpr c26
    clear c26
    replace H := zbind H; obtain ⟨t27, ht27, H⟩ := H
    replace H := znifb H; rcases H with ⟨c29, H⟩ | ⟨c29, H⟩
    case inl =>
     subst c29
     obtain rfl := zsome H
     go_wp2_with (first | ((with_reducible refine gd 59 rfl ?_); refine ev_cl HS (impl_within.calls ht27.out) Tryz.func86 ?_; clear HS; (try clear F); intro wt27 HS F))
     go_ret
     exact HS.pk
    subst c29
    replace H := zgo H; obtain ⟨c30, H⟩ := H
    have c30n : (0 < a0.f1.size) = True := eq_true (by have := of_eq_true c30; omega)
    replace H := znif H; rcases H with ⟨c33, H⟩ | ⟨c33, H⟩
    case inl =>
     obtain rfl := zsome H
     go_wp2_with (first | ((with_reducible refine gd 59 rfl ?_); refine ev_cl HS (impl_within.calls ht27.out) Tryz.func86 ?_; clear HS; (try clear F); intro wt27 HS F; have hx31 : ∀ h : 0 < a0.f1.size, ((a0.f1[0]'h).toNat : Int) = bt a0.f1 0 := bt_at a0.f1 0; have hz32 : 0 < a0.f1.size := (by have := of_eq_true c30; omega)))
     go_ret
     exact HS.pk
    replace H := znif' H; rcases H with ⟨c36, H⟩ | ⟨c36, H⟩
    case inl =>
     have c36a := beq_eq_false_iff_ne.mpr c36
     have c36b := bne_iff_ne.mpr c36
     clear c36
     obtain rfl := zsome H
     go_wp2_with (first | ((with_reducible refine gd 59 rfl ?_); refine ev_cl HS (impl_within.calls ht27.out) Tryz.func86 ?_; clear HS; (try clear F); intro wt27 HS F; have hx31 : ∀ h : 0 < a0.f1.size, ((a0.f1[0]'h).toNat : Int) = bt a0.f1 0 := bt_at a0.f1 0; have hz32 : 0 < a0.f1.size := (by have := of_eq_true c30; omega); have hx34 : ∀ h : 0 < a0.f1.size, ((a0.f1[0]'h).toNat : Int) = bt a0.f1 0 := bt_at a0.f1 0; have hz35 : 0 < a0.f1.size := (by have := of_eq_true c30; omega)))
     go_ret
     exact HS.pk
    have c36a := beq_iff_eq.mpr c36
    have c36b := bne_eq_false_iff_eq.mpr c36
    clear c36
    replace H := zif' H; rcases H with ⟨c37, H⟩ | ⟨c37, H⟩
    case inl =>
     have c37a := beq_iff_eq.mpr c37
     have c37b := bne_eq_false_iff_eq.mpr c37
     clear c37
     obtain rfl := zsome H
     go_wp2_with (first | ((with_reducible refine gd 59 rfl ?_); refine ev_cl HS (impl_within.calls ht27.out) Tryz.func86 ?_; clear HS; (try clear F); intro wt27 HS F; have hx31 : ∀ h : 0 < a0.f1.size, ((a0.f1[0]'h).toNat : Int) = bt a0.f1 0 := bt_at a0.f1 0; have hz32 : 0 < a0.f1.size := (by have := of_eq_true c30; omega); have hx34 : ∀ h : 0 < a0.f1.size, ((a0.f1[0]'h).toNat : Int) = bt a0.f1 0 := bt_at a0.f1 0; have hz35 : 0 < a0.f1.size := (by have := of_eq_true c30; omega)))
     go_ret
     exact HS.pk
    have c37a := beq_eq_false_iff_ne.mpr c37
    have c37b := bne_iff_ne.mpr c37
    clear c37
    replace H := zgo H; obtain ⟨c38, H⟩ := H
    have c38n : (1 < a0.f1.size) = True := eq_true (by have := of_eq_true c38; omega)
    obtain rfl := zsome H
    go_wp2_with (first | ((with_reducible refine gd 59 rfl ?_); refine ev_cl HS (impl_within.calls ht27.out) Tryz.func86 ?_; clear HS; (try clear F); intro wt27 HS F; have hx31 : ∀ h : 0 < a0.f1.size, ((a0.f1[0]'h).toNat : Int) = bt a0.f1 0 := bt_at a0.f1 0; have hz32 : 0 < a0.f1.size := (by have := of_eq_true c30; omega); have hx34 : ∀ h : 0 < a0.f1.size, ((a0.f1[0]'h).toNat : Int) = bt a0.f1 0 := bt_at a0.f1 0; have hz35 : 0 < a0.f1.size := (by have := of_eq_true c30; omega); have hx39 : ∀ h : 1 < a0.f1.size, ((a0.f1[1]'h).toNat : Int) = bt a0.f1 1 := bt_at a0.f1 1; have hz40 : 1 < a0.f1.size := (by have := of_eq_true c38; omega)))
    go_ret
    exact HS.pk
theorem impl_itemOk.calls {k : Nat} {a0 : S110} {a1 : Int} {Ap0 : Option Addr} {np0 cp0 : Nat} {r : Bool} {w : World} (h : impl_itemOk.f k a0 a1 = some r) (gp0 : k110.C w Ap0 np0 a0.f2) (lp0 : np0 ≤ cp0) :
    Calls Tryz.prog 115 #[.agg #[.int .i64 a0.f0, .string a0.f1, .slice Ap0 np0 cp0], .int .i64 a1] w (fun e w' => e = .returned (.bool r) ∧ Hp noFP w w' []) := impl_itemOk.calls_ k (Nat.le_refl k) h gp0 lp0
end Go.Proofs.YtfiifjlapaefaaaGreat.F
