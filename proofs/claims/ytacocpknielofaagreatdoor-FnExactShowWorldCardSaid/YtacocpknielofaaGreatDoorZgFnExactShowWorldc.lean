/- Functions of the program and of the law, and that their calls do what is written here. -/
import Derived.Test.YtacocpknielofaaGreatDoorZgFnExactShowWorldb
namespace Go.Proofs.YtacocpknielofaaGreatDoor.F
open Go.RowKit Go.Proofs.YtacocpknielofaaGreatDoorW.PrintWords Go.Proofs.YtacocpknielofaaGreatDoorW.PrintLast Go.Proofs.YtacocpknielofaaGreatDoorW.PrintMore Go.Proofs.YtacocpknielofaaGreatDoor.Z
attribute [local go_sem] max2_int min2_int max_two min_two max_three min_three max_four min_four
set_option linter.unusedVariables false
set_option linter.unusedSimpArgs false
set_option maxRecDepth 100000
/-! ### laws_toCertS: function 58 -/
def laws_toCertS.l0 : Nat → (List S91) → Int → (List S88) → Option ((List S91))
  | 0, _, _, _ => none
  | k + 1, l23, x25, a0 => (if x25 < (a0.length : Int) then (if 0 ≤ x25 then (if x25 < (a0.length : Int) then ((laws_toCert.f k (rd_T88 a0 x25)).bind fun t31 => (laws_toCertS.l0 k (l23.set (x25).toNat t31) (wrap64 (x25 + 1)) a0)) else none) else none) else (some l23))
def laws_toCertS.f (k : Nat) (a0 : (List S88)) : Option ((List S91)) := (if 0 ≤ (a0.length : Int) then (if ((a0.length : Int)).toNat ≤ 1529755308210 then (laws_toCertS.l0 k (List.replicate a0.length z91) 0 a0) else none) else none)
set_option maxHeartbeats 16000000 in
theorem laws_toCertS.calls {k : Nat} {a0 : (List S88)} {Ap0 : Option Addr} {np0 cp0 : Nat} {r : (List S91)} {w : World} (h : laws_toCertS.f k a0 = some r) (gp0 : k88.C w Ap0 np0 a0) (lp0 : np0 ≤ cp0) :
    Calls Tryz.prog 58 #[.slice Ap0 np0 cp0] w (fun e w' => ∃ v0_ : Value, e = .returned (v0_) ∧ Hp noFP w w' [.own (Zd.slice 91 q91) r [v0_]]) := by
 obtain rfl := C_len gp0
 have HS := Hp.start w
 have H := Aside0.mk h
 clear h
 unfold laws_toCertS.f at H
 go_enter Tryz.func58, Tryz.ntmps58
 replace H := zgo H; obtain ⟨c1, H⟩ := H
 replace H := zgo H; obtain ⟨c2, H⟩ := H
 go_wp2_with (first | ((with_reducible refine gd 7 rfl ?_); refine ev_make rfl q91 z91 HS rfl (a0.length : Int) rfl rfl Tryz.underlying29 info91 rfl (by decide) (by decide) q91_zero (of_eq_true c1) (by have := of_eq_true c2; omega) ?_; clear HS; (try clear F); intro v3 w3 HS; obtain ⟨B3, d3, rfl, m3⟩ := HS.formn a0.length 0 rfl (by first | rfl | simp); (try simp only [hpn, hpm] at HS)))
 go_loopg [4] k (fun kq v_4 w' => ∃ (l23 : List S91) (x25 : Int), v_4 = .int .i64 x25 ∧ Aside0 (laws_toCertS.l0 kq l23 x25 a0 = some r) ∧ Aside0 (kq ≤ k) ∧ Hp noFP w w' [.own (Zd.slice 91 q91) l23 [.slice B3 a0.length d3]])
 case atStart => exact ⟨_, _, rfl, H, ⟨Nat.le_refl _⟩, HS⟩
 case round =>
  clear HS H; (try clear F)
  obtain ⟨l23, x25, rfl, H, HKk22, HS⟩ := hrel
  cases gk with
  | zero => exact absurd H.out (by simp [laws_toCertS.l0])
  | succ k22 =>
   simp only [laws_toCertS.l0] at H
   replace H := znif H; rcases H with ⟨c27, H⟩ | ⟨c27, H⟩
   case inl =>
    obtain rfl := zsome H
    go_wp2
    exact bodyPost_ret (results_single rfl (.tmp .nil)) rfl ⟨_, rfl, HS.pick [0] (by decide) (by rfl)⟩
   replace H := zgo H; obtain ⟨c28, H⟩ := H
   replace H := zgo H; obtain ⟨c29, H⟩ := H
   obtain ⟨ad30, B30_9, d30_9, B30_10, d30_10, B30_11, d30_11, rfl, e30_0, e30_1, e30_2, e30_3, e30_4, e30_5, e30_6, e30_7, e30_8, e30_9, e30_10, e30_11, e30_12, m30_9, y30_9, m30_10, y30_10, m30_11, y30_11⟩ := at_T88 gp0 x25 (of_eq_true c28) (of_eq_true c29)
   have e30_0_30 := (HS.keepc e30_0)
   have e30_1_30 := (HS.keepc e30_1)
   have e30_2_30 := (HS.keepc e30_2)
   have e30_3_30 := (HS.keepc e30_3)
   have e30_4_30 := (HS.keepc e30_4)
   have e30_5_30 := (HS.keepc e30_5)
   have e30_6_30 := (HS.keepc e30_6)
   have e30_7_30 := (HS.keepc e30_7)
   have e30_8_30 := (HS.keepc e30_8)
   have e30_9_30 := (HS.keepc e30_9)
   have e30_10_30 := (HS.keepc e30_10)
   have e30_11_30 := (HS.keepc e30_11)
   have e30_12_30 := (HS.keepc e30_12)
   replace H := zbind H; obtain ⟨t31, ht31, H⟩ := H
   go_wp2_with (first | ((with_reducible refine gd 20 rfl ?_); refine ev_cl3 HS (laws_toCert.calls ht31.out (HS.ro y30_9) m30_9 (HS.ro y30_10) m30_10 (HS.ro y30_11) m30_11) Tryz.func36 ?_; clear HS; (try clear F); intro v32 v33 v34 wt31 HS F; obtain ⟨B32, d32, rfl, m32⟩ := HS.form 1 rfl; obtain ⟨B33, d33, rfl, m33⟩ := HS.form 2 rfl; obtain ⟨B34, d34, rfl, m34⟩ := HS.form 3 rfl; obtain ⟨ad36, B36_9, d36_9, B36_10, d36_10, B36_11, d36_11, rfl, e36_0, e36_1, e36_2, e36_3, e36_4, e36_5, e36_6, e36_7, e36_8, e36_9, e36_10, e36_11, e36_12, m36_9, y36_9, m36_10, y36_10, m36_11, y36_11⟩ := at_T91 (HS.rd 0 rfl) x25 (of_eq_true c28) (of_eq_true c29)) | ((with_reducible refine gate_store (p := 21) rfl ?_); refine ev_set rfl q91 0 [1, 2, 3] x25 t31 HS (seg := [.int .i64 t31.f0, .string t31.f1, .string t31.f2, .int .i64 t31.f3, .int .i64 t31.f4, .string t31.f5, .bool t31.f6, .int .i64 t31.f7, .int .i64 t31.f8, .slice B32 t31.f9.length d32, .slice B33 t31.f10.length d33, .slice B34 t31.f11.length d34, .string t31.f12]) rfl (by decide) rfl rfl rfl (by first | rfl | exact (Nat.mul_one _).symm) rfl rfl (by kernel_rfl) (by simp [Value.oneCell']) ⟨of_eq_true c28, of_eq_true c29⟩ rfl (fun S hd hh => q91_pack (x := t31) hd (hh 1 (.own (Zd.slice 3 (Zd.int .i64)) t31.f9 [.slice B32 t31.f9.length d32]) rfl) (hh 2 (.own (Zd.slice 9 Zd.string) t31.f10 [.slice B33 t31.f10.length d33]) rfl) (hh 3 (.own (Zd.slice 9 Zd.string) t31.f11 [.slice B34 t31.f11.length d34]) rfl) (by decide)) ?_; clear HS; (try clear F); intro w37 HS; (try simp only [hpn, hpm] at HS)))
   go_roundg k22
   case measure => have := HKk22.out; omega
   case rel => exact ⟨_, _, rfl, H, ⟨by have := HKk22.out; omega⟩, HS.pick [0] (by decide) (by rfl)⟩
/-! ### laws_toRev: function 176 -/
def laws_toRev.f (a0 : S240) : Option (S238) := (some (⟨a0.f0, a0.f1⟩ : S238))
set_option maxHeartbeats 16000000 in
theorem laws_toRev.calls {a0 : S240} {r : S238} {w : World} (h : laws_toRev.f a0 = some r) :
    Calls Tryz.prog 176 #[.agg #[.int .i64 a0.f0, .int .i64 a0.f1]] w (fun e w' => e = .returned (.agg #[.int .i64 r.f0, .int .i64 r.f1]) ∧ Hp noFP w w' []) := by
 have HS := Hp.start w
 have H := Aside0.mk h
 clear h
 unfold laws_toRev.f at H
 go_enter Tryz.func176, Tryz.ntmps176
 obtain rfl := zsome H
 go_wp2_with (first | ((with_reducible refine gd 1 rfl ?_); refine ev_bx HS ?_; clear HS; (try clear F); intro g1 w1 HS F) | ((with_reducible refine gd 2 rfl ?_); refine ev_bx HS ?_; clear HS; (try clear F); intro g2 w2 HS F) | ((with_reducible refine gd 3 rfl ?_); refine ev_bx HS ?_; clear HS; (try clear F); intro g3 w3 HS F) | ((with_reducible refine gate_store (p := 6) rfl ?_); refine ev_st 2 0 HS (seg := [.int .i64 a0.f0]) ?_; clear HS; (try clear F); intro w7 HS F) | ((with_reducible refine gate_store (p := 9) rfl ?_); refine ev_st 2 1 HS (seg := [.int .i64 a0.f1]) ?_; clear HS; (try clear F); intro w9 HS F) | ((with_reducible refine gate_store (p := 2) rfl ?_); refine ev_st 1 0 HS (seg := [.int .i64 a0.f0, .int .i64 a0.f1]) ?_; clear HS; (try clear F); intro w11 HS F))
 exact bodyPost_ret (results_single rfl (.cell _ _ _ _ _ rfl (HS.boxAt (i := 1) rfl) Tryz.underlying238 rfl (by kernel_rfl) .nil)) rfl ⟨rfl, HS.pick [] (by decide) (by rfl)⟩
/-! ### laws_toRevS: function 107 -/
def laws_toRevS.l0 : Nat → (List S238) → Int → (List S240) → Option ((List S238))
  | 0, _, _, _ => none
  | k + 1, l20, x22, a0 => (if x22 < (a0.length : Int) then (if 0 ≤ x22 then (if x22 < (a0.length : Int) then ((laws_toRev.f (rd_T240 a0 x22)).bind fun t28 => (laws_toRevS.l0 k (l20.set (x22).toNat t28) (wrap64 (x22 + 1)) a0)) else none) else none) else (some l20))
def laws_toRevS.f (k : Nat) (a0 : (List S240)) : Option ((List S238)) := (if 0 ≤ (a0.length : Int) then (if ((a0.length : Int)).toNat ≤ 17592186044416 then (laws_toRevS.l0 k (List.replicate a0.length z238) 0 a0) else none) else none)
set_option maxHeartbeats 16000000 in
theorem laws_toRevS.calls {k : Nat} {a0 : (List S240)} {Ap0 : Option Addr} {np0 cp0 : Nat} {r : (List S238)} {w : World} (h : laws_toRevS.f k a0 = some r) (gp0 : k240.C w Ap0 np0 a0) (lp0 : np0 ≤ cp0) :
    Calls Tryz.prog 107 #[.slice Ap0 np0 cp0] w (fun e w' => ∃ v0_ : Value, e = .returned (v0_) ∧ Hp noFP w w' [.own (Zd.slice 238 q238) r [v0_]]) := by
 obtain rfl := C_len gp0
 have HS := Hp.start w
 have H := Aside0.mk h
 clear h
 unfold laws_toRevS.f at H
 go_enter Tryz.func107, Tryz.ntmps107
 replace H := zgo H; obtain ⟨c1, H⟩ := H
 replace H := zgo H; obtain ⟨c2, H⟩ := H
 go_wp2_with (first | ((with_reducible refine gd 7 rfl ?_); refine ev_make rfl q238 z238 HS rfl (a0.length : Int) rfl rfl Tryz.underlying79 info238 rfl (by decide) (by decide) q238_zero (of_eq_true c1) (by have := of_eq_true c2; omega) ?_; clear HS; (try clear F); intro v3 w3 HS; obtain ⟨B3, d3, rfl, m3⟩ := HS.formn a0.length 0 rfl (by first | rfl | simp); (try simp only [hpn, hpm] at HS)))
 go_loopg [4] k (fun kq v_4 w' => ∃ (l20 : List S238) (x22 : Int), v_4 = .int .i64 x22 ∧ Aside0 (laws_toRevS.l0 kq l20 x22 a0 = some r) ∧ Aside0 (kq ≤ k) ∧ Hp noFP w w' [.own (Zd.slice 238 q238) l20 [.slice B3 a0.length d3]])
 case atStart => exact ⟨_, _, rfl, H, ⟨Nat.le_refl _⟩, HS⟩
 case round =>
  clear HS H; (try clear F)
  obtain ⟨l20, x22, rfl, H, HKk19, HS⟩ := hrel
  cases gk with
  | zero => exact absurd H.out (by simp [laws_toRevS.l0])
  | succ k19 =>
   simp only [laws_toRevS.l0] at H
   replace H := znif H; rcases H with ⟨c24, H⟩ | ⟨c24, H⟩
   case inl =>
    obtain rfl := zsome H
    go_wp2
    exact bodyPost_ret (results_single rfl (.tmp .nil)) rfl ⟨_, rfl, HS.pick [0] (by decide) (by rfl)⟩
   replace H := zgo H; obtain ⟨c25, H⟩ := H
   replace H := zgo H; obtain ⟨c26, H⟩ := H
   obtain ⟨ad27, rfl, e27_0, e27_1⟩ := at_T240 gp0 x22 (of_eq_true c25) (of_eq_true c26)
   have e27_0_27 := (HS.keepc e27_0)
   have e27_1_27 := (HS.keepc e27_1)
   replace H := zbind H; obtain ⟨t28, ht28, H⟩ := H
   go_wp2_with (first | ((with_reducible refine gd 20 rfl ?_); refine ev_cl HS (laws_toRev.calls ht28.out) Tryz.func176 ?_; clear HS; (try clear F); intro wt28 HS F; obtain ⟨ad30, rfl, e30_0, e30_1⟩ := at_T238 (HS.rd 0 rfl) x22 (of_eq_true c25) (of_eq_true c26)) | ((with_reducible refine gate_store (p := 21) rfl ?_); refine ev_set rfl q238 0 [] x22 t28 HS (seg := [.int .i64 t28.f0, .int .i64 t28.f1]) rfl (by decide) rfl rfl rfl (by first | rfl | exact (Nat.mul_one _).symm) rfl rfl (by kernel_rfl) (by simp [Value.oneCell']) ⟨of_eq_true c25, of_eq_true c26⟩ rfl (made_flat (fun _ => q238_flat _ _ _)) ?_; clear HS; (try clear F); intro w31 HS; (try simp only [hpn, hpm] at HS)))
   go_roundg k19
   case measure => have := HKk19.out; omega
   case rel => exact ⟨_, _, rfl, H, ⟨by have := HKk19.out; omega⟩, HS.pick [0] (by decide) (by rfl)⟩
/-! ### laws_toCrl: function 28 -/
def laws_toCrl.f (k : Nat) (a0 : S75) : Option (S81) := ((laws_toRevS.f k a0.f5).bind fun t17 => (some (⟨a0.f0, a0.f1, a0.f2, a0.f3, a0.f4, t17, a0.f6⟩ : S81)))
set_option maxHeartbeats 16000000 in
theorem laws_toCrl.calls {k : Nat} {a0 : S75} {Ap0 : Option Addr} {np0 cp0 : Nat} {r : S81} {w : World} (h : laws_toCrl.f k a0 = some r) (gp0 : k240.C w Ap0 np0 a0.f5) (lp0 : np0 ≤ cp0) :
    Calls Tryz.prog 28 #[.agg #[.string a0.f0, .int .i64 a0.f1, .int .i64 a0.f2, .int .i64 a0.f3, .int .i64 a0.f4, .slice Ap0 np0 cp0, .string a0.f6]] w (fun e w' => ∃ v0_ : Value, e = .returned (.agg #[.string r.f0, .int .i64 r.f1, .int .i64 r.f2, .int .i64 r.f3, .int .i64 r.f4, v0_, .string r.f6]) ∧ Hp noFP w w' [.own (Zd.slice 238 q238) r.f5 [v0_]]) := by
 obtain rfl := C_len gp0
 have HS := Hp.start w
 have H := Aside0.mk h
 clear h
 unfold laws_toCrl.f at H
 go_enter Tryz.func28, Tryz.ntmps28
 replace H := zbind H; obtain ⟨t17, ht17, H⟩ := H
 obtain rfl := zsome H
 go_wp2_with (first | ((with_reducible refine gd 1 rfl ?_); refine ev_bx HS ?_; clear HS; (try clear F); intro g1 w1 HS F) | ((with_reducible refine gd 2 rfl ?_); refine ev_bx HS ?_; clear HS; (try clear F); intro g2 w2 HS F) | ((with_reducible refine gd 3 rfl ?_); refine ev_bx HS ?_; clear HS; (try clear F); intro g3 w3 HS F) | ((with_reducible refine gate_store (p := 6) rfl ?_); refine ev_st 2 0 HS (seg := [.string a0.f0]) ?_; clear HS; (try clear F); intro w7 HS F) | ((with_reducible refine gate_store (p := 9) rfl ?_); refine ev_st 2 1 HS (seg := [.int .i64 a0.f1]) ?_; clear HS; (try clear F); intro w9 HS F) | ((with_reducible refine gate_store (p := 12) rfl ?_); refine ev_st 2 2 HS (seg := [.int .i64 a0.f2]) ?_; clear HS; (try clear F); intro w11 HS F) | ((with_reducible refine gate_store (p := 15) rfl ?_); refine ev_st 2 3 HS (seg := [.int .i64 a0.f3]) ?_; clear HS; (try clear F); intro w13 HS F) | ((with_reducible refine gate_store (p := 18) rfl ?_); refine ev_st 2 4 HS (seg := [.int .i64 a0.f4]) ?_; clear HS; (try clear F); intro w15 HS F) | ((with_reducible refine gd 21 rfl ?_); refine ev_cl1 HS (laws_toRevS.calls ht17.out (HS.ro gp0) lp0) Tryz.func107 ?_; clear HS; (try clear F); intro v18 wt17 HS F; obtain ⟨B18, d18, rfl, m18⟩ := HS.form 3 rfl) | ((with_reducible refine gate_store (p := 22) rfl ?_); refine ev_st 2 5 HS (seg := [.slice B18 t17.length d18]) ?_; clear HS; (try clear F); intro w20 HS F) | ((with_reducible refine gate_store (p := 25) rfl ?_); refine ev_st 2 6 HS (seg := [.string a0.f6]) ?_; clear HS; (try clear F); intro w22 HS F) | ((with_reducible refine gate_store (p := 2) rfl ?_); refine ev_st 1 0 HS (seg := [.string a0.f0, .int .i64 a0.f1, .int .i64 a0.f2, .int .i64 a0.f3, .int .i64 a0.f4, .slice B18 t17.length d18, .string a0.f6]) ?_; clear HS; (try clear F); intro w24 HS F))
 exact bodyPost_ret (results_single rfl (.cell _ _ _ _ _ rfl (HS.boxAt (i := 1) rfl) Tryz.underlying81 rfl (by kernel_rfl) .nil)) rfl ⟨_, rfl, HS.pick [3] (by decide) (by rfl)⟩
/-! ### laws_toCrlS: function 59 -/
def laws_toCrlS.l0 : Nat → (List S81) → Int → (List S75) → Option ((List S81))
  | 0, _, _, _ => none
  | k + 1, l21, x23, a0 => (if x23 < (a0.length : Int) then (if 0 ≤ x23 then (if x23 < (a0.length : Int) then ((laws_toCrl.f k (rd_T75 a0 x23)).bind fun t29 => (laws_toCrlS.l0 k (l21.set (x23).toNat t29) (wrap64 (x23 + 1)) a0)) else none) else none) else (some l21))
def laws_toCrlS.f (k : Nat) (a0 : (List S75)) : Option ((List S81)) := (if 0 ≤ (a0.length : Int) then (if ((a0.length : Int)).toNat ≤ 3198579280802 then (laws_toCrlS.l0 k (List.replicate a0.length z81) 0 a0) else none) else none)
set_option maxHeartbeats 16000000 in
theorem laws_toCrlS.calls {k : Nat} {a0 : (List S75)} {Ap0 : Option Addr} {np0 cp0 : Nat} {r : (List S81)} {w : World} (h : laws_toCrlS.f k a0 = some r) (gp0 : k75.C w Ap0 np0 a0) (lp0 : np0 ≤ cp0) :
    Calls Tryz.prog 59 #[.slice Ap0 np0 cp0] w (fun e w' => ∃ v0_ : Value, e = .returned (v0_) ∧ Hp noFP w w' [.own (Zd.slice 81 q81) r [v0_]]) := by
 obtain rfl := C_len gp0
 have HS := Hp.start w
 have H := Aside0.mk h
 clear h
 unfold laws_toCrlS.f at H
 go_enter Tryz.func59, Tryz.ntmps59
 replace H := zgo H; obtain ⟨c1, H⟩ := H
 replace H := zgo H; obtain ⟨c2, H⟩ := H
 go_wp2_with (first | ((with_reducible refine gd 7 rfl ?_); refine ev_make rfl q81 z81 HS rfl (a0.length : Int) rfl rfl Tryz.underlying30 info81 rfl (by decide) (by decide) q81_zero (of_eq_true c1) (by have := of_eq_true c2; omega) ?_; clear HS; (try clear F); intro v3 w3 HS; obtain ⟨B3, d3, rfl, m3⟩ := HS.formn a0.length 0 rfl (by first | rfl | simp); (try simp only [hpn, hpm] at HS)))
 go_loopg [4] k (fun kq v_4 w' => ∃ (l21 : List S81) (x23 : Int), v_4 = .int .i64 x23 ∧ Aside0 (laws_toCrlS.l0 kq l21 x23 a0 = some r) ∧ Aside0 (kq ≤ k) ∧ Hp noFP w w' [.own (Zd.slice 81 q81) l21 [.slice B3 a0.length d3]])
 case atStart => exact ⟨_, _, rfl, H, ⟨Nat.le_refl _⟩, HS⟩
 case round =>
  clear HS H; (try clear F)
  obtain ⟨l21, x23, rfl, H, HKk20, HS⟩ := hrel
  cases gk with
  | zero => exact absurd H.out (by simp [laws_toCrlS.l0])
  | succ k20 =>
   simp only [laws_toCrlS.l0] at H
   replace H := znif H; rcases H with ⟨c25, H⟩ | ⟨c25, H⟩
   case inl =>
    obtain rfl := zsome H
    go_wp2
    exact bodyPost_ret (results_single rfl (.tmp .nil)) rfl ⟨_, rfl, HS.pick [0] (by decide) (by rfl)⟩
   replace H := zgo H; obtain ⟨c26, H⟩ := H
   replace H := zgo H; obtain ⟨c27, H⟩ := H
   obtain ⟨ad28, B28_5, d28_5, rfl, e28_0, e28_1, e28_2, e28_3, e28_4, e28_5, e28_6, m28_5, y28_5⟩ := at_T75 gp0 x23 (of_eq_true c26) (of_eq_true c27)
   have e28_0_28 := (HS.keepc e28_0)
   have e28_1_28 := (HS.keepc e28_1)
   have e28_2_28 := (HS.keepc e28_2)
   have e28_3_28 := (HS.keepc e28_3)
   have e28_4_28 := (HS.keepc e28_4)
   have e28_5_28 := (HS.keepc e28_5)
   have e28_6_28 := (HS.keepc e28_6)
   replace H := zbind H; obtain ⟨t29, ht29, H⟩ := H
   go_wp2_with (first | ((with_reducible refine gd 20 rfl ?_); refine ev_cl1 HS (laws_toCrl.calls ht29.out (HS.ro y28_5) m28_5) Tryz.func28 ?_; clear HS; (try clear F); intro v30 wt29 HS F; obtain ⟨B30, d30, rfl, m30⟩ := HS.form 1 rfl; obtain ⟨ad32, B32_5, d32_5, rfl, e32_0, e32_1, e32_2, e32_3, e32_4, e32_5, e32_6, m32_5, y32_5⟩ := at_T81 (HS.rd 0 rfl) x23 (of_eq_true c26) (of_eq_true c27)) | ((with_reducible refine gate_store (p := 21) rfl ?_); refine ev_set rfl q81 0 [1] x23 t29 HS (seg := [.string t29.f0, .int .i64 t29.f1, .int .i64 t29.f2, .int .i64 t29.f3, .int .i64 t29.f4, .slice B30 t29.f5.length d30, .string t29.f6]) rfl (by decide) rfl rfl rfl (by first | rfl | exact (Nat.mul_one _).symm) rfl rfl (by kernel_rfl) (by simp [Value.oneCell']) ⟨of_eq_true c26, of_eq_true c27⟩ rfl (fun S hd hh => q81_pack (x := t29) hd (hh 1 (.own (Zd.slice 238 q238) t29.f5 [.slice B30 t29.f5.length d30]) rfl) (by decide)) ?_; clear HS; (try clear F); intro w33 HS; (try simp only [hpn, hpm] at HS)))
   go_roundg k20
   case measure => have := HKk20.out; omega
   case rel => exact ⟨_, _, rfl, H, ⟨by have := HKk20.out; omega⟩, HS.pick [0] (by decide) (by rfl)⟩
/-! ### laws_toAnchor: function 140 -/
def laws_toAnchor.f (a0 : S178) : Option (S115) := (some (⟨a0.f0, a0.f1⟩ : S115))
set_option maxHeartbeats 16000000 in
theorem laws_toAnchor.calls {a0 : S178} {r : S115} {w : World} (h : laws_toAnchor.f a0 = some r) :
    Calls Tryz.prog 140 #[.agg #[.string a0.f0, .string a0.f1]] w (fun e w' => e = .returned (.agg #[.string r.f0, .string r.f1]) ∧ Hp noFP w w' []) := by
 have HS := Hp.start w
 have H := Aside0.mk h
 clear h
 unfold laws_toAnchor.f at H
 go_enter Tryz.func140, Tryz.ntmps140
 obtain rfl := zsome H
 go_wp2_with (first | ((with_reducible refine gd 1 rfl ?_); refine ev_bx HS ?_; clear HS; (try clear F); intro g1 w1 HS F) | ((with_reducible refine gd 2 rfl ?_); refine ev_bx HS ?_; clear HS; (try clear F); intro g2 w2 HS F) | ((with_reducible refine gd 3 rfl ?_); refine ev_bx HS ?_; clear HS; (try clear F); intro g3 w3 HS F) | ((with_reducible refine gate_store (p := 6) rfl ?_); refine ev_st 2 0 HS (seg := [.string a0.f0]) ?_; clear HS; (try clear F); intro w7 HS F) | ((with_reducible refine gate_store (p := 9) rfl ?_); refine ev_st 2 1 HS (seg := [.string a0.f1]) ?_; clear HS; (try clear F); intro w9 HS F) | ((with_reducible refine gate_store (p := 2) rfl ?_); refine ev_st 1 0 HS (seg := [.string a0.f0, .string a0.f1]) ?_; clear HS; (try clear F); intro w11 HS F))
 exact bodyPost_ret (results_single rfl (.cell _ _ _ _ _ rfl (HS.boxAt (i := 1) rfl) Tryz.underlying115 rfl (by kernel_rfl) .nil)) rfl ⟨rfl, HS.pick [] (by decide) (by rfl)⟩
/-! ### laws_toAnchorS: function 60 -/
def laws_toAnchorS.l0 : Nat → (List S115) → Int → (List S178) → Option ((List S115))
  | 0, _, _, _ => none
  | k + 1, l20, x22, a0 => (if x22 < (a0.length : Int) then (if 0 ≤ x22 then (if x22 < (a0.length : Int) then ((laws_toAnchor.f (rd_T178 a0 x22)).bind fun t28 => (laws_toAnchorS.l0 k (l20.set (x22).toNat t28) (wrap64 (x22 + 1)) a0)) else none) else none) else (some l20))
def laws_toAnchorS.f (k : Nat) (a0 : (List S178)) : Option ((List S115)) := (if 0 ≤ (a0.length : Int) then (if ((a0.length : Int)).toNat ≤ 8796093022208 then (laws_toAnchorS.l0 k (List.replicate a0.length z115) 0 a0) else none) else none)
set_option maxHeartbeats 16000000 in
theorem laws_toAnchorS.calls {k : Nat} {a0 : (List S178)} {Ap0 : Option Addr} {np0 cp0 : Nat} {r : (List S115)} {w : World} (h : laws_toAnchorS.f k a0 = some r) (gp0 : k178.C w Ap0 np0 a0) (lp0 : np0 ≤ cp0) :
    Calls Tryz.prog 60 #[.slice Ap0 np0 cp0] w (fun e w' => ∃ v0_ : Value, e = .returned (v0_) ∧ Hp noFP w w' [.own (Zd.slice 115 q115) r [v0_]]) := by
 obtain rfl := C_len gp0
 have HS := Hp.start w
 have H := Aside0.mk h
 clear h
 unfold laws_toAnchorS.f at H
 go_enter Tryz.func60, Tryz.ntmps60
 replace H := zgo H; obtain ⟨c1, H⟩ := H
 replace H := zgo H; obtain ⟨c2, H⟩ := H
 go_wp2_with (first | ((with_reducible refine gd 7 rfl ?_); refine ev_make rfl q115 z115 HS rfl (a0.length : Int) rfl rfl Tryz.underlying31 info115 rfl (by decide) (by decide) q115_zero (of_eq_true c1) (by have := of_eq_true c2; omega) ?_; clear HS; (try clear F); intro v3 w3 HS; obtain ⟨B3, d3, rfl, m3⟩ := HS.formn a0.length 0 rfl (by first | rfl | simp); (try simp only [hpn, hpm] at HS)))
 go_loopg [4] k (fun kq v_4 w' => ∃ (l20 : List S115) (x22 : Int), v_4 = .int .i64 x22 ∧ Aside0 (laws_toAnchorS.l0 kq l20 x22 a0 = some r) ∧ Aside0 (kq ≤ k) ∧ Hp noFP w w' [.own (Zd.slice 115 q115) l20 [.slice B3 a0.length d3]])
 case atStart => exact ⟨_, _, rfl, H, ⟨Nat.le_refl _⟩, HS⟩
 case round =>
  clear HS H; (try clear F)
  obtain ⟨l20, x22, rfl, H, HKk19, HS⟩ := hrel
  cases gk with
  | zero => exact absurd H.out (by simp [laws_toAnchorS.l0])
  | succ k19 =>
   simp only [laws_toAnchorS.l0] at H
   replace H := znif H; rcases H with ⟨c24, H⟩ | ⟨c24, H⟩
   case inl =>
    obtain rfl := zsome H
    go_wp2
    exact bodyPost_ret (results_single rfl (.tmp .nil)) rfl ⟨_, rfl, HS.pick [0] (by decide) (by rfl)⟩
   replace H := zgo H; obtain ⟨c25, H⟩ := H
   replace H := zgo H; obtain ⟨c26, H⟩ := H
   obtain ⟨ad27, rfl, e27_0, e27_1⟩ := at_T178 gp0 x22 (of_eq_true c25) (of_eq_true c26)
   have e27_0_27 := (HS.keepc e27_0)
   have e27_1_27 := (HS.keepc e27_1)
   replace H := zbind H; obtain ⟨t28, ht28, H⟩ := H
   go_wp2_with (first | ((with_reducible refine gd 20 rfl ?_); refine ev_cl HS (laws_toAnchor.calls ht28.out) Tryz.func140 ?_; clear HS; (try clear F); intro wt28 HS F; obtain ⟨ad30, rfl, e30_0, e30_1⟩ := at_T115 (HS.rd 0 rfl) x22 (of_eq_true c25) (of_eq_true c26)) | ((with_reducible refine gate_store (p := 21) rfl ?_); refine ev_set rfl q115 0 [] x22 t28 HS (seg := [.string t28.f0, .string t28.f1]) rfl (by decide) rfl rfl rfl (by first | rfl | exact (Nat.mul_one _).symm) rfl rfl (by kernel_rfl) (by simp [Value.oneCell']) ⟨of_eq_true c25, of_eq_true c26⟩ rfl (made_flat (fun _ => q115_flat _ _ _)) ?_; clear HS; (try clear F); intro w31 HS; (try simp only [hpn, hpm] at HS)))
   go_roundg k19
   case measure => have := HKk19.out; omega
   case rel => exact ⟨_, _, rfl, H, ⟨by have := HKk19.out; omega⟩, HS.pick [0] (by decide) (by rfl)⟩
/-! ### laws_toStore: function 13 -/
def laws_toStore.f (k : Nat) (a0 : S26) : Option (S33) := ((laws_toCertS.f k a0.f0).bind fun t7 => ((laws_toCrlS.f k a0.f1).bind fun t12 => ((laws_toAnchorS.f k a0.f2).bind fun t17 => (some (⟨t7, t12, t17⟩ : S33)))))
set_option maxHeartbeats 16000000 in
theorem laws_toStore.calls {k : Nat} {a0 : S26} {Ap0 : Option Addr} {np0 cp0 : Nat} {Ap1 : Option Addr} {np1 cp1 : Nat} {Ap2 : Option Addr} {np2 cp2 : Nat} {r : S33} {w : World} (h : laws_toStore.f k a0 = some r) (gp0 : k88.C w Ap0 np0 a0.f0) (lp0 : np0 ≤ cp0) (gp1 : k75.C w Ap1 np1 a0.f1) (lp1 : np1 ≤ cp1) (gp2 : k178.C w Ap2 np2 a0.f2) (lp2 : np2 ≤ cp2) :
    Calls Tryz.prog 13 #[.agg #[.slice Ap0 np0 cp0, .slice Ap1 np1 cp1, .slice Ap2 np2 cp2]] w (fun e w' => ∃ v0_ v1_ v2_ : Value, e = .returned (.agg #[v0_, v1_, v2_]) ∧ Hp noFP w w' [.own (Zd.slice 91 q91) r.f0 [v0_], .own (Zd.slice 81 q81) r.f1 [v1_], .own (Zd.slice 115 q115) r.f2 [v2_]]) := by
 obtain rfl := C_len gp0
 obtain rfl := C_len gp1
 obtain rfl := C_len gp2
 have HS := Hp.start w
 have H := Aside0.mk h
 clear h
 unfold laws_toStore.f at H
 go_enter Tryz.func13, Tryz.ntmps13
 replace H := zbind H; obtain ⟨t7, ht7, H⟩ := H
 replace H := zbind H; obtain ⟨t12, ht12, H⟩ := H
 replace H := zbind H; obtain ⟨t17, ht17, H⟩ := H
 obtain rfl := zsome H
 go_wp2_with (first | ((with_reducible refine gd 1 rfl ?_); refine ev_bx HS ?_; clear HS; (try clear F); intro g1 w1 HS F) | ((with_reducible refine gd 2 rfl ?_); refine ev_bx HS ?_; clear HS; (try clear F); intro g2 w2 HS F) | ((with_reducible refine gd 3 rfl ?_); refine ev_bx HS ?_; clear HS; (try clear F); intro g3 w3 HS F) | ((with_reducible refine gd 6 rfl ?_); refine ev_cl1 HS (laws_toCertS.calls ht7.out (HS.ro gp0) lp0) Tryz.func58 ?_; clear HS; (try clear F); intro v8 wt7 HS F; obtain ⟨B8, d8, rfl, m8⟩ := HS.form 3 rfl) | ((with_reducible refine gate_store (p := 7) rfl ?_); refine ev_st 2 0 HS (seg := [.slice B8 t7.length d8]) ?_; clear HS; (try clear F); intro w10 HS F) | ((with_reducible refine gd 10 rfl ?_); refine ev_cl1 HS (laws_toCrlS.calls ht12.out (HS.ro gp1) lp1) Tryz.func59 ?_; clear HS; (try clear F); intro v13 wt12 HS F; obtain ⟨B13, d13, rfl, m13⟩ := HS.form 4 rfl) | ((with_reducible refine gate_store (p := 11) rfl ?_); refine ev_st 2 1 HS (seg := [.slice B13 t12.length d13]) ?_; clear HS; (try clear F); intro w15 HS F) | ((with_reducible refine gd 14 rfl ?_); refine ev_cl1 HS (laws_toAnchorS.calls ht17.out (HS.ro gp2) lp2) Tryz.func60 ?_; clear HS; (try clear F); intro v18 wt17 HS F; obtain ⟨B18, d18, rfl, m18⟩ := HS.form 5 rfl) | ((with_reducible refine gate_store (p := 15) rfl ?_); refine ev_st 2 2 HS (seg := [.slice B18 t17.length d18]) ?_; clear HS; (try clear F); intro w20 HS F) | ((with_reducible refine gate_store (p := 2) rfl ?_); refine ev_st 1 0 HS (seg := [.slice B8 t7.length d8, .slice B13 t12.length d13, .slice B18 t17.length d18]) ?_; clear HS; (try clear F); intro w22 HS F))
 exact bodyPost_ret (results_single rfl (.cell _ _ _ _ _ rfl (HS.boxAt (i := 1) rfl) Tryz.underlying33 rfl (by kernel_rfl) .nil)) rfl ⟨_, _, _, rfl, HS.pick [3, 4, 5] (by decide) (by rfl)⟩
/-! ### laws_toRules: function 210 -/
def laws_toRules.f (k : Nat) (a0 : S194) : Option (S200) := ((laws_toIntS.f k a0.f1).bind fun t9 => (some (⟨a0.f0, t9, a0.f2, a0.f3, a0.f4⟩ : S200)))
set_option maxHeartbeats 16000000 in
theorem laws_toRules.calls {k : Nat} {a0 : S194} {Ap0 : Option Addr} {np0 cp0 : Nat} {r : S200} {w : World} (h : laws_toRules.f k a0 = some r) (gp0 : (Kd.int .i64).C w Ap0 np0 a0.f1) (lp0 : np0 ≤ cp0) :
    Calls Tryz.prog 210 #[.agg #[.int .i64 a0.f0, .slice Ap0 np0 cp0, .bool a0.f2, .bool a0.f3, .int .i64 a0.f4]] w (fun e w' => ∃ v0_ : Value, e = .returned (.agg #[.int .i64 r.f0, v0_, .bool r.f2, .bool r.f3, .int .i64 r.f4]) ∧ Hp noFP w w' [.own (Zd.slice 3 (Zd.int .i64)) r.f1 [v0_]]) := by
 obtain rfl := C_len gp0
 have HS := Hp.start w
 have H := Aside0.mk h
 clear h
 unfold laws_toRules.f at H
 go_enter Tryz.func210, Tryz.ntmps210
 replace H := zbind H; obtain ⟨t9, ht9, H⟩ := H
 obtain rfl := zsome H
 go_wp2_with (first | ((with_reducible refine gd 1 rfl ?_); refine ev_bx HS ?_; clear HS; (try clear F); intro g1 w1 HS F) | ((with_reducible refine gd 2 rfl ?_); refine ev_bx HS ?_; clear HS; (try clear F); intro g2 w2 HS F) | ((with_reducible refine gd 3 rfl ?_); refine ev_bx HS ?_; clear HS; (try clear F); intro g3 w3 HS F) | ((with_reducible refine gate_store (p := 6) rfl ?_); refine ev_st 2 0 HS (seg := [.int .i64 a0.f0]) ?_; clear HS; (try clear F); intro w7 HS F) | ((with_reducible refine gd 9 rfl ?_); refine ev_cl1 HS (laws_toIntS.calls ht9.out (HS.ro gp0) lp0) Tryz.func93 ?_; clear HS; (try clear F); intro v10 wt9 HS F; obtain ⟨B10, d10, rfl, m10⟩ := HS.form 3 rfl) | ((with_reducible refine gate_store (p := 10) rfl ?_); refine ev_st 2 1 HS (seg := [.slice B10 t9.length d10]) ?_; clear HS; (try clear F); intro w12 HS F) | ((with_reducible refine gate_store (p := 13) rfl ?_); refine ev_st 2 2 HS (seg := [.bool a0.f2]) ?_; clear HS; (try clear F); intro w14 HS F) | ((with_reducible refine gate_store (p := 16) rfl ?_); refine ev_st 2 3 HS (seg := [.bool a0.f3]) ?_; clear HS; (try clear F); intro w16 HS F) | ((with_reducible refine gate_store (p := 19) rfl ?_); refine ev_st 2 4 HS (seg := [.int .i64 a0.f4]) ?_; clear HS; (try clear F); intro w18 HS F) | ((with_reducible refine gate_store (p := 2) rfl ?_); refine ev_st 1 0 HS (seg := [.int .i64 a0.f0, .slice B10 t9.length d10, .bool a0.f2, .bool a0.f3, .int .i64 a0.f4]) ?_; clear HS; (try clear F); intro w20 HS F))
 exact bodyPost_ret (results_single rfl (.cell _ _ _ _ _ rfl (HS.boxAt (i := 1) rfl) Tryz.underlying200 rfl (by kernel_rfl) .nil)) rfl ⟨_, rfl, HS.pick [3] (by decide) (by rfl)⟩
/-! ### laws_toPlan: function 154 -/
def laws_toPlan.f (k : Nat) (a0 : S196) : Option (S202) := ((laws_toIntS.f k a0.f1).bind fun t9 => ((laws_toRules.f k a0.f2).bind fun t14 => (some (⟨a0.f0, t9, (⟨t14.f0, t14.f1, t14.f2, t14.f3, t14.f4⟩ : S200)⟩ : S202))))
set_option maxHeartbeats 16000000 in
theorem laws_toPlan.calls {k : Nat} {a0 : S196} {Ap0 : Option Addr} {np0 cp0 : Nat} {Ap1 : Option Addr} {np1 cp1 : Nat} {r : S202} {w : World} (h : laws_toPlan.f k a0 = some r) (gp0 : (Kd.int .i64).C w Ap0 np0 a0.f1) (lp0 : np0 ≤ cp0) (gp1 : (Kd.int .i64).C w Ap1 np1 a0.f2.f1) (lp1 : np1 ≤ cp1) :
    Calls Tryz.prog 154 #[.agg #[.int .i64 a0.f0, .slice Ap0 np0 cp0, .int .i64 a0.f2.f0, .slice Ap1 np1 cp1, .bool a0.f2.f2, .bool a0.f2.f3, .int .i64 a0.f2.f4]] w (fun e w' => ∃ v0_ v1_ : Value, e = .returned (.agg #[.int .i64 r.f0, v0_, .int .i64 r.f2.f0, v1_, .bool r.f2.f2, .bool r.f2.f3, .int .i64 r.f2.f4]) ∧ Hp noFP w w' [.own (Zd.slice 3 (Zd.int .i64)) r.f1 [v0_], .own (Zd.slice 3 (Zd.int .i64)) r.f2.f1 [v1_]]) := by
 obtain rfl := C_len gp0
 obtain rfl := C_len gp1
 have HS := Hp.start w
 have H := Aside0.mk h
 clear h
 unfold laws_toPlan.f at H
 go_enter Tryz.func154, Tryz.ntmps154
 replace H := zbind H; obtain ⟨t9, ht9, H⟩ := H
 replace H := zbind H; obtain ⟨t14, ht14, H⟩ := H
 obtain rfl := zsome H
 go_wp2_with (first | ((with_reducible refine gd 1 rfl ?_); refine ev_bx HS ?_; clear HS; (try clear F); intro g1 w1 HS F) | ((with_reducible refine gd 2 rfl ?_); refine ev_bx HS ?_; clear HS; (try clear F); intro g2 w2 HS F) | ((with_reducible refine gd 3 rfl ?_); refine ev_bx HS ?_; clear HS; (try clear F); intro g3 w3 HS F) | ((with_reducible refine gate_store (p := 6) rfl ?_); refine ev_st 2 0 HS (seg := [.int .i64 a0.f0]) ?_; clear HS; (try clear F); intro w7 HS F) | ((with_reducible refine gd 9 rfl ?_); refine ev_cl1 HS (laws_toIntS.calls ht9.out (HS.ro gp0) lp0) Tryz.func93 ?_; clear HS; (try clear F); intro v10 wt9 HS F; obtain ⟨B10, d10, rfl, m10⟩ := HS.form 3 rfl) | ((with_reducible refine gate_store (p := 10) rfl ?_); refine ev_st 2 1 HS (seg := [.slice B10 t9.length d10]) ?_; clear HS; (try clear F); intro w12 HS F) | ((with_reducible refine gd 13 rfl ?_); refine ev_cl1 HS (laws_toRules.calls ht14.out (HS.ro gp1) lp1) Tryz.func210 ?_; clear HS; (try clear F); intro v15 wt14 HS F; obtain ⟨B15, d15, rfl, m15⟩ := HS.form 4 rfl) | ((with_reducible refine gate_store (p := 14) rfl ?_); refine ev_st 2 2 HS (seg := [.int .i64 t14.f0, .slice B15 t14.f1.length d15, .bool t14.f2, .bool t14.f3, .int .i64 t14.f4]) ?_; clear HS; (try clear F); intro w17 HS F) | ((with_reducible refine gate_store (p := 2) rfl ?_); refine ev_st 1 0 HS (seg := [.int .i64 a0.f0, .slice B10 t9.length d10, .int .i64 t14.f0, .slice B15 t14.f1.length d15, .bool t14.f2, .bool t14.f3, .int .i64 t14.f4]) ?_; clear HS; (try clear F); intro w19 HS F))
 exact bodyPost_ret (results_single rfl (.cell _ _ _ _ _ rfl (HS.boxAt (i := 1) rfl) Tryz.underlying202 rfl (by kernel_rfl) .nil)) rfl ⟨_, _, rfl, HS.pick [3, 4] (by decide) (by rfl)⟩
/-! ### laws_toPlanS: function 76 -/
def laws_toPlanS.l0 : Nat → (List S202) → Int → (List S196) → Option ((List S202))
  | 0, _, _, _ => none
  | k + 1, l22, x24, a0 => (if x24 < (a0.length : Int) then (if 0 ≤ x24 then (if x24 < (a0.length : Int) then ((laws_toPlan.f k (rd_T196 a0 x24)).bind fun t30 => (laws_toPlanS.l0 k (l22.set (x24).toNat t30) (wrap64 (x24 + 1)) a0)) else none) else none) else (some l22))
def laws_toPlanS.f (k : Nat) (a0 : (List S196)) : Option ((List S202)) := (if 0 ≤ (a0.length : Int) then (if ((a0.length : Int)).toNat ≤ 3518437208883 then (laws_toPlanS.l0 k (List.replicate a0.length z202) 0 a0) else none) else none)
set_option maxHeartbeats 16000000 in
theorem laws_toPlanS.calls {k : Nat} {a0 : (List S196)} {Ap0 : Option Addr} {np0 cp0 : Nat} {r : (List S202)} {w : World} (h : laws_toPlanS.f k a0 = some r) (gp0 : k196.C w Ap0 np0 a0) (lp0 : np0 ≤ cp0) :
    Calls Tryz.prog 76 #[.slice Ap0 np0 cp0] w (fun e w' => ∃ v0_ : Value, e = .returned (v0_) ∧ Hp noFP w w' [.own (Zd.slice 202 q202) r [v0_]]) := by
 obtain rfl := C_len gp0
 have HS := Hp.start w
 have H := Aside0.mk h
 clear h
 unfold laws_toPlanS.f at H
 go_enter Tryz.func76, Tryz.ntmps76
 replace H := zgo H; obtain ⟨c1, H⟩ := H
 replace H := zgo H; obtain ⟨c2, H⟩ := H
 go_wp2_with (first | ((with_reducible refine gd 7 rfl ?_); refine ev_make rfl q202 z202 HS rfl (a0.length : Int) rfl rfl Tryz.underlying43 info202 rfl (by decide) (by decide) q202_zero (of_eq_true c1) (by have := of_eq_true c2; omega) ?_; clear HS; (try clear F); intro v3 w3 HS; obtain ⟨B3, d3, rfl, m3⟩ := HS.formn a0.length 0 rfl (by first | rfl | simp); (try simp only [hpn, hpm] at HS)))
 go_loopg [4] k (fun kq v_4 w' => ∃ (l22 : List S202) (x24 : Int), v_4 = .int .i64 x24 ∧ Aside0 (laws_toPlanS.l0 kq l22 x24 a0 = some r) ∧ Aside0 (kq ≤ k) ∧ Hp noFP w w' [.own (Zd.slice 202 q202) l22 [.slice B3 a0.length d3]])
 case atStart => exact ⟨_, _, rfl, H, ⟨Nat.le_refl _⟩, HS⟩
 case round =>
  clear HS H; (try clear F)
  obtain ⟨l22, x24, rfl, H, HKk21, HS⟩ := hrel
  cases gk with
  | zero => exact absurd H.out (by simp [laws_toPlanS.l0])
  | succ k21 =>
   simp only [laws_toPlanS.l0] at H
   replace H := znif H; rcases H with ⟨c26, H⟩ | ⟨c26, H⟩
   case inl =>
    obtain rfl := zsome H
    go_wp2
    exact bodyPost_ret (results_single rfl (.tmp .nil)) rfl ⟨_, rfl, HS.pick [0] (by decide) (by rfl)⟩
   replace H := zgo H; obtain ⟨c27, H⟩ := H
   replace H := zgo H; obtain ⟨c28, H⟩ := H
   obtain ⟨ad29, B29_1, d29_1, B29_3, d29_3, rfl, e29_0, e29_1, e29_2, e29_3, e29_4, e29_5, e29_6, m29_1, y29_1, m29_3, y29_3⟩ := at_T196 gp0 x24 (of_eq_true c27) (of_eq_true c28)
   have e29_0_29 := (HS.keepc e29_0)
   have e29_1_29 := (HS.keepc e29_1)
   have e29_2_29 := (HS.keepc e29_2)
   have e29_3_29 := (HS.keepc e29_3)
   have e29_4_29 := (HS.keepc e29_4)
   have e29_5_29 := (HS.keepc e29_5)
   have e29_6_29 := (HS.keepc e29_6)
   replace H := zbind H; obtain ⟨t30, ht30, H⟩ := H
   go_wp2_with (first | ((with_reducible refine gd 20 rfl ?_); refine ev_cl2 HS (laws_toPlan.calls ht30.out (HS.ro y29_1) m29_1 (HS.ro y29_3) m29_3) Tryz.func154 ?_; clear HS; (try clear F); intro v31 v32 wt30 HS F; obtain ⟨B31, d31, rfl, m31⟩ := HS.form 1 rfl; obtain ⟨B32, d32, rfl, m32⟩ := HS.form 2 rfl; obtain ⟨ad34, B34_1, d34_1, B34_3, d34_3, rfl, e34_0, e34_1, e34_2, e34_3, e34_4, e34_5, e34_6, m34_1, y34_1, m34_3, y34_3⟩ := at_T202 (HS.rd 0 rfl) x24 (of_eq_true c27) (of_eq_true c28)) | ((with_reducible refine gate_store (p := 21) rfl ?_); refine ev_set rfl q202 0 [1, 2] x24 t30 HS (seg := [.int .i64 t30.f0, .slice B31 t30.f1.length d31, .int .i64 t30.f2.f0, .slice B32 t30.f2.f1.length d32, .bool t30.f2.f2, .bool t30.f2.f3, .int .i64 t30.f2.f4]) rfl (by decide) rfl rfl rfl (by first | rfl | exact (Nat.mul_one _).symm) rfl rfl (by kernel_rfl) (by simp [Value.oneCell']) ⟨of_eq_true c27, of_eq_true c28⟩ rfl (fun S hd hh => q202_pack (x := t30) hd (hh 1 (.own (Zd.slice 3 (Zd.int .i64)) t30.f1 [.slice B31 t30.f1.length d31]) rfl) (hh 2 (.own (Zd.slice 3 (Zd.int .i64)) t30.f2.f1 [.slice B32 t30.f2.f1.length d32]) rfl) (by decide)) ?_; clear HS; (try clear F); intro w35 HS; (try simp only [hpn, hpm] at HS)))
   go_roundg k21
   case measure => have := HKk21.out; omega
   case rel => exact ⟨_, _, rfl, H, ⟨by have := HKk21.out; omega⟩, HS.pick [0] (by decide) (by rfl)⟩
/-! ### laws_toKept: function 155 -/
def laws_toKept.f (a0 : S199) : Option (S205) := (some (⟨a0.f0, a0.f1, a0.f2⟩ : S205))
set_option maxHeartbeats 16000000 in
theorem laws_toKept.calls {a0 : S199} {r : S205} {w : World} (h : laws_toKept.f a0 = some r) :
    Calls Tryz.prog 155 #[.agg #[.string a0.f0, .string a0.f1, .int .i64 a0.f2]] w (fun e w' => e = .returned (.agg #[.string r.f0, .string r.f1, .int .i64 r.f2]) ∧ Hp noFP w w' []) := by
 have HS := Hp.start w
 have H := Aside0.mk h
 clear h
 unfold laws_toKept.f at H
 go_enter Tryz.func155, Tryz.ntmps155
 obtain rfl := zsome H
 go_wp2_with (first | ((with_reducible refine gd 1 rfl ?_); refine ev_bx HS ?_; clear HS; (try clear F); intro g1 w1 HS F) | ((with_reducible refine gd 2 rfl ?_); refine ev_bx HS ?_; clear HS; (try clear F); intro g2 w2 HS F) | ((with_reducible refine gd 3 rfl ?_); refine ev_bx HS ?_; clear HS; (try clear F); intro g3 w3 HS F) | ((with_reducible refine gate_store (p := 6) rfl ?_); refine ev_st 2 0 HS (seg := [.string a0.f0]) ?_; clear HS; (try clear F); intro w7 HS F) | ((with_reducible refine gate_store (p := 9) rfl ?_); refine ev_st 2 1 HS (seg := [.string a0.f1]) ?_; clear HS; (try clear F); intro w9 HS F) | ((with_reducible refine gate_store (p := 12) rfl ?_); refine ev_st 2 2 HS (seg := [.int .i64 a0.f2]) ?_; clear HS; (try clear F); intro w11 HS F) | ((with_reducible refine gate_store (p := 2) rfl ?_); refine ev_st 1 0 HS (seg := [.string a0.f0, .string a0.f1, .int .i64 a0.f2]) ?_; clear HS; (try clear F); intro w13 HS F))
 exact bodyPost_ret (results_single rfl (.cell _ _ _ _ _ rfl (HS.boxAt (i := 1) rfl) Tryz.underlying205 rfl (by kernel_rfl) .nil)) rfl ⟨rfl, HS.pick [] (by decide) (by rfl)⟩
/-! ### laws_toKeptS: function 77 -/
def laws_toKeptS.l0 : Nat → (List S205) → Int → (List S199) → Option ((List S205))
  | 0, _, _, _ => none
  | k + 1, l20, x22, a0 => (if x22 < (a0.length : Int) then (if 0 ≤ x22 then (if x22 < (a0.length : Int) then ((laws_toKept.f (rd_T199 a0 x22)).bind fun t28 => (laws_toKeptS.l0 k (l20.set (x22).toNat t28) (wrap64 (x22 + 1)) a0)) else none) else none) else (some l20))
def laws_toKeptS.f (k : Nat) (a0 : (List S199)) : Option ((List S205)) := (if 0 ≤ (a0.length : Int) then (if ((a0.length : Int)).toNat ≤ 7036874417766 then (laws_toKeptS.l0 k (List.replicate a0.length z205) 0 a0) else none) else none)
set_option maxHeartbeats 16000000 in
theorem laws_toKeptS.calls {k : Nat} {a0 : (List S199)} {Ap0 : Option Addr} {np0 cp0 : Nat} {r : (List S205)} {w : World} (h : laws_toKeptS.f k a0 = some r) (gp0 : k199.C w Ap0 np0 a0) (lp0 : np0 ≤ cp0) :
    Calls Tryz.prog 77 #[.slice Ap0 np0 cp0] w (fun e w' => ∃ v0_ : Value, e = .returned (v0_) ∧ Hp noFP w w' [.own (Zd.slice 205 q205) r [v0_]]) := by
 obtain rfl := C_len gp0
 have HS := Hp.start w
 have H := Aside0.mk h
 clear h
 unfold laws_toKeptS.f at H
 go_enter Tryz.func77, Tryz.ntmps77
 replace H := zgo H; obtain ⟨c1, H⟩ := H
 replace H := zgo H; obtain ⟨c2, H⟩ := H
 go_wp2_with (first | ((with_reducible refine gd 7 rfl ?_); refine ev_make rfl q205 z205 HS rfl (a0.length : Int) rfl rfl Tryz.underlying44 info205 rfl (by decide) (by decide) q205_zero (of_eq_true c1) (by have := of_eq_true c2; omega) ?_; clear HS; (try clear F); intro v3 w3 HS; obtain ⟨B3, d3, rfl, m3⟩ := HS.formn a0.length 0 rfl (by first | rfl | simp); (try simp only [hpn, hpm] at HS)))
 go_loopg [4] k (fun kq v_4 w' => ∃ (l20 : List S205) (x22 : Int), v_4 = .int .i64 x22 ∧ Aside0 (laws_toKeptS.l0 kq l20 x22 a0 = some r) ∧ Aside0 (kq ≤ k) ∧ Hp noFP w w' [.own (Zd.slice 205 q205) l20 [.slice B3 a0.length d3]])
 case atStart => exact ⟨_, _, rfl, H, ⟨Nat.le_refl _⟩, HS⟩
 case round =>
  clear HS H; (try clear F)
  obtain ⟨l20, x22, rfl, H, HKk19, HS⟩ := hrel
  cases gk with
  | zero => exact absurd H.out (by simp [laws_toKeptS.l0])
  | succ k19 =>
   simp only [laws_toKeptS.l0] at H
   replace H := znif H; rcases H with ⟨c24, H⟩ | ⟨c24, H⟩
   case inl =>
    obtain rfl := zsome H
    go_wp2
    exact bodyPost_ret (results_single rfl (.tmp .nil)) rfl ⟨_, rfl, HS.pick [0] (by decide) (by rfl)⟩
   replace H := zgo H; obtain ⟨c25, H⟩ := H
   replace H := zgo H; obtain ⟨c26, H⟩ := H
   obtain ⟨ad27, rfl, e27_0, e27_1, e27_2⟩ := at_T199 gp0 x22 (of_eq_true c25) (of_eq_true c26)
   have e27_0_27 := (HS.keepc e27_0)
   have e27_1_27 := (HS.keepc e27_1)
   have e27_2_27 := (HS.keepc e27_2)
   replace H := zbind H; obtain ⟨t28, ht28, H⟩ := H
   go_wp2_with (first | ((with_reducible refine gd 20 rfl ?_); refine ev_cl HS (laws_toKept.calls ht28.out) Tryz.func155 ?_; clear HS; (try clear F); intro wt28 HS F; obtain ⟨ad30, rfl, e30_0, e30_1, e30_2⟩ := at_T205 (HS.rd 0 rfl) x22 (of_eq_true c25) (of_eq_true c26)) | ((with_reducible refine gate_store (p := 21) rfl ?_); refine ev_set rfl q205 0 [] x22 t28 HS (seg := [.string t28.f0, .string t28.f1, .int .i64 t28.f2]) rfl (by decide) rfl rfl rfl (by first | rfl | exact (Nat.mul_one _).symm) rfl rfl (by kernel_rfl) (by simp [Value.oneCell']) ⟨of_eq_true c25, of_eq_true c26⟩ rfl (made_flat (fun _ => q205_flat _ _ _)) ?_; clear HS; (try clear F); intro w31 HS; (try simp only [hpn, hpm] at HS)))
   go_roundg k19
   case measure => have := HKk19.out; omega
   case rel => exact ⟨_, _, rfl, H, ⟨by have := HKk19.out; omega⟩, HS.pick [0] (by decide) (by rfl)⟩
/-! ### laws_toServer: function 18 -/
def laws_toServer.f (k : Nat) (a0 : S40) : Option (S46) := ((laws_toStore.f k a0.f0).bind fun t7 => ((laws_toPlanS.f k a0.f1).bind fun t14 => ((laws_toKeptS.f k a0.f5).bind fun t25 => (some (⟨(⟨t7.f0, t7.f1, t7.f2⟩ : S33), t14, a0.f2, a0.f3, a0.f4, t25⟩ : S46)))))
set_option maxHeartbeats 16000000 in
theorem laws_toServer.calls {k : Nat} {a0 : S40} {Ap0 : Option Addr} {np0 cp0 : Nat} {Ap1 : Option Addr} {np1 cp1 : Nat} {Ap2 : Option Addr} {np2 cp2 : Nat} {Ap3 : Option Addr} {np3 cp3 : Nat} {Ap4 : Option Addr} {np4 cp4 : Nat} {r : S46} {w : World} (h : laws_toServer.f k a0 = some r) (gp0 : k88.C w Ap0 np0 a0.f0.f0) (lp0 : np0 ≤ cp0) (gp1 : k75.C w Ap1 np1 a0.f0.f1) (lp1 : np1 ≤ cp1) (gp2 : k178.C w Ap2 np2 a0.f0.f2) (lp2 : np2 ≤ cp2) (gp3 : k196.C w Ap3 np3 a0.f1) (lp3 : np3 ≤ cp3) (gp4 : k199.C w Ap4 np4 a0.f5) (lp4 : np4 ≤ cp4) :
    Calls Tryz.prog 18 #[.agg #[.slice Ap0 np0 cp0, .slice Ap1 np1 cp1, .slice Ap2 np2 cp2, .slice Ap3 np3 cp3, .int .i64 a0.f2, .int .i64 a0.f3, .int .i64 a0.f4, .slice Ap4 np4 cp4]] w (fun e w' => ∃ v0_ v1_ v2_ v3_ v4_ : Value, e = .returned (.agg #[v0_, v1_, v2_, v3_, .int .i64 r.f2, .int .i64 r.f3, .int .i64 r.f4, v4_]) ∧ Hp noFP w w' [.own (Zd.slice 91 q91) r.f0.f0 [v0_], .own (Zd.slice 81 q81) r.f0.f1 [v1_], .own (Zd.slice 115 q115) r.f0.f2 [v2_], .own (Zd.slice 202 q202) r.f1 [v3_], .own (Zd.slice 205 q205) r.f5 [v4_]]) := by
 obtain rfl := C_len gp0
 obtain rfl := C_len gp1
 obtain rfl := C_len gp2
 obtain rfl := C_len gp3
 obtain rfl := C_len gp4
 have HS := Hp.start w
 have H := Aside0.mk h
 clear h
 unfold laws_toServer.f at H
 go_enter Tryz.func18, Tryz.ntmps18
 replace H := zbind H; obtain ⟨t7, ht7, H⟩ := H
 replace H := zbind H; obtain ⟨t14, ht14, H⟩ := H
 replace H := zbind H; obtain ⟨t25, ht25, H⟩ := H
 obtain rfl := zsome H
 go_wp2_with (first | ((with_reducible refine gd 1 rfl ?_); refine ev_bx HS ?_; clear HS; (try clear F); intro g1 w1 HS F) | ((with_reducible refine gd 2 rfl ?_); refine ev_bx HS ?_; clear HS; (try clear F); intro g2 w2 HS F) | ((with_reducible refine gd 3 rfl ?_); refine ev_bx HS ?_; clear HS; (try clear F); intro g3 w3 HS F) | ((with_reducible refine gd 6 rfl ?_); refine ev_cl3 HS (laws_toStore.calls ht7.out (HS.ro gp0) lp0 (HS.ro gp1) lp1 (HS.ro gp2) lp2) Tryz.func13 ?_; clear HS; (try clear F); intro v8 v9 v10 wt7 HS F; obtain ⟨B8, d8, rfl, m8⟩ := HS.form 3 rfl; obtain ⟨B9, d9, rfl, m9⟩ := HS.form 4 rfl; obtain ⟨B10, d10, rfl, m10⟩ := HS.form 5 rfl) | ((with_reducible refine gate_store (p := 7) rfl ?_); refine ev_st 2 0 HS (seg := [.slice B8 t7.f0.length d8, .slice B9 t7.f1.length d9, .slice B10 t7.f2.length d10]) ?_; clear HS; (try clear F); intro w12 HS F) | ((with_reducible refine gd 10 rfl ?_); refine ev_cl1 HS (laws_toPlanS.calls ht14.out (HS.ro gp3) lp3) Tryz.func76 ?_; clear HS; (try clear F); intro v15 wt14 HS F; obtain ⟨B15, d15, rfl, m15⟩ := HS.form 6 rfl) | ((with_reducible refine gate_store (p := 11) rfl ?_); refine ev_st 2 3 HS (seg := [.slice B15 t14.length d15]) ?_; clear HS; (try clear F); intro w17 HS F) | ((with_reducible refine gate_store (p := 14) rfl ?_); refine ev_st 2 4 HS (seg := [.int .i64 a0.f2]) ?_; clear HS; (try clear F); intro w19 HS F) | ((with_reducible refine gate_store (p := 17) rfl ?_); refine ev_st 2 5 HS (seg := [.int .i64 a0.f3]) ?_; clear HS; (try clear F); intro w21 HS F) | ((with_reducible refine gate_store (p := 20) rfl ?_); refine ev_st 2 6 HS (seg := [.int .i64 a0.f4]) ?_; clear HS; (try clear F); intro w23 HS F) | ((with_reducible refine gd 23 rfl ?_); refine ev_cl1 HS (laws_toKeptS.calls ht25.out (HS.ro gp4) lp4) Tryz.func77 ?_; clear HS; (try clear F); intro v26 wt25 HS F; obtain ⟨B26, d26, rfl, m26⟩ := HS.form 7 rfl) | ((with_reducible refine gate_store (p := 24) rfl ?_); refine ev_st 2 7 HS (seg := [.slice B26 t25.length d26]) ?_; clear HS; (try clear F); intro w28 HS F) | ((with_reducible refine gate_store (p := 2) rfl ?_); refine ev_st 1 0 HS (seg := [.slice B8 t7.f0.length d8, .slice B9 t7.f1.length d9, .slice B10 t7.f2.length d10, .slice B15 t14.length d15, .int .i64 a0.f2, .int .i64 a0.f3, .int .i64 a0.f4, .slice B26 t25.length d26]) ?_; clear HS; (try clear F); intro w30 HS F))
 exact bodyPost_ret (results_single rfl (.cell _ _ _ _ _ rfl (HS.boxAt (i := 1) rfl) Tryz.underlying46 rfl (by kernel_rfl) .nil)) rfl ⟨_, _, _, _, _, rfl, HS.pick [3, 4, 5, 6, 7] (by decide) (by rfl)⟩
/-! ### laws_toWait: function 215 -/
def laws_toWait.f (a0 : S265) : Option (S274) := (some (⟨a0.f0, a0.f1, a0.f2, a0.f3⟩ : S274))
set_option maxHeartbeats 16000000 in
theorem laws_toWait.calls {a0 : S265} {r : S274} {w : World} (h : laws_toWait.f a0 = some r) :
    Calls Tryz.prog 215 #[.agg #[.int .i64 a0.f0, .int .i64 a0.f1, .string a0.f2, .int .i64 a0.f3]] w (fun e w' => e = .returned (.agg #[.int .i64 r.f0, .int .i64 r.f1, .string r.f2, .int .i64 r.f3]) ∧ Hp noFP w w' []) := by
 have HS := Hp.start w
 have H := Aside0.mk h
 clear h
 unfold laws_toWait.f at H
 go_enter Tryz.func215, Tryz.ntmps215
 obtain rfl := zsome H
 go_wp2_with (first | ((with_reducible refine gd 1 rfl ?_); refine ev_bx HS ?_; clear HS; (try clear F); intro g1 w1 HS F) | ((with_reducible refine gd 2 rfl ?_); refine ev_bx HS ?_; clear HS; (try clear F); intro g2 w2 HS F) | ((with_reducible refine gd 3 rfl ?_); refine ev_bx HS ?_; clear HS; (try clear F); intro g3 w3 HS F) | ((with_reducible refine gate_store (p := 6) rfl ?_); refine ev_st 2 0 HS (seg := [.int .i64 a0.f0]) ?_; clear HS; (try clear F); intro w7 HS F) | ((with_reducible refine gate_store (p := 9) rfl ?_); refine ev_st 2 1 HS (seg := [.int .i64 a0.f1]) ?_; clear HS; (try clear F); intro w9 HS F) | ((with_reducible refine gate_store (p := 12) rfl ?_); refine ev_st 2 2 HS (seg := [.string a0.f2]) ?_; clear HS; (try clear F); intro w11 HS F) | ((with_reducible refine gate_store (p := 15) rfl ?_); refine ev_st 2 3 HS (seg := [.int .i64 a0.f3]) ?_; clear HS; (try clear F); intro w13 HS F) | ((with_reducible refine gate_store (p := 2) rfl ?_); refine ev_st 1 0 HS (seg := [.int .i64 a0.f0, .int .i64 a0.f1, .string a0.f2, .int .i64 a0.f3]) ?_; clear HS; (try clear F); intro w15 HS F))
 exact bodyPost_ret (results_single rfl (.cell _ _ _ _ _ rfl (HS.boxAt (i := 1) rfl) Tryz.underlying274 rfl (by kernel_rfl) .nil)) rfl ⟨rfl, HS.pick [] (by decide) (by rfl)⟩
/-! ### laws_toWaitS: function 165 -/
def laws_toWaitS.l0 : Nat → (List S274) → Int → (List S265) → Option ((List S274))
  | 0, _, _, _ => none
  | k + 1, l20, x22, a0 => (if x22 < (a0.length : Int) then (if 0 ≤ x22 then (if x22 < (a0.length : Int) then ((laws_toWait.f (rd_T265 a0 x22)).bind fun t28 => (laws_toWaitS.l0 k (l20.set (x22).toNat t28) (wrap64 (x22 + 1)) a0)) else none) else none) else (some l20))
def laws_toWaitS.f (k : Nat) (a0 : (List S265)) : Option ((List S274)) := (if 0 ≤ (a0.length : Int) then (if ((a0.length : Int)).toNat ≤ 7036874417766 then (laws_toWaitS.l0 k (List.replicate a0.length z274) 0 a0) else none) else none)
set_option maxHeartbeats 16000000 in
theorem laws_toWaitS.calls {k : Nat} {a0 : (List S265)} {Ap0 : Option Addr} {np0 cp0 : Nat} {r : (List S274)} {w : World} (h : laws_toWaitS.f k a0 = some r) (gp0 : k265.C w Ap0 np0 a0) (lp0 : np0 ≤ cp0) :
    Calls Tryz.prog 165 #[.slice Ap0 np0 cp0] w (fun e w' => ∃ v0_ : Value, e = .returned (v0_) ∧ Hp noFP w w' [.own (Zd.slice 274 q274) r [v0_]]) := by
 obtain rfl := C_len gp0
 have HS := Hp.start w
 have H := Aside0.mk h
 clear h
 unfold laws_toWaitS.f at H
 go_enter Tryz.func165, Tryz.ntmps165
 replace H := zgo H; obtain ⟨c1, H⟩ := H
 replace H := zgo H; obtain ⟨c2, H⟩ := H
 go_wp2_with (first | ((with_reducible refine gd 7 rfl ?_); refine ev_make rfl q274 z274 HS rfl (a0.length : Int) rfl rfl Tryz.underlying62 info274 rfl (by decide) (by decide) q274_zero (of_eq_true c1) (by have := of_eq_true c2; omega) ?_; clear HS; (try clear F); intro v3 w3 HS; obtain ⟨B3, d3, rfl, m3⟩ := HS.formn a0.length 0 rfl (by first | rfl | simp); (try simp only [hpn, hpm] at HS)))
 go_loopg [4] k (fun kq v_4 w' => ∃ (l20 : List S274) (x22 : Int), v_4 = .int .i64 x22 ∧ Aside0 (laws_toWaitS.l0 kq l20 x22 a0 = some r) ∧ Aside0 (kq ≤ k) ∧ Hp noFP w w' [.own (Zd.slice 274 q274) l20 [.slice B3 a0.length d3]])
 case atStart => exact ⟨_, _, rfl, H, ⟨Nat.le_refl _⟩, HS⟩
 case round =>
  clear HS H; (try clear F)
  obtain ⟨l20, x22, rfl, H, HKk19, HS⟩ := hrel
  cases gk with
  | zero => exact absurd H.out (by simp [laws_toWaitS.l0])
  | succ k19 =>
   simp only [laws_toWaitS.l0] at H
   replace H := znif H; rcases H with ⟨c24, H⟩ | ⟨c24, H⟩
   case inl =>
    obtain rfl := zsome H
    go_wp2
    exact bodyPost_ret (results_single rfl (.tmp .nil)) rfl ⟨_, rfl, HS.pick [0] (by decide) (by rfl)⟩
   replace H := zgo H; obtain ⟨c25, H⟩ := H
   replace H := zgo H; obtain ⟨c26, H⟩ := H
   obtain ⟨ad27, rfl, e27_0, e27_1, e27_2, e27_3⟩ := at_T265 gp0 x22 (of_eq_true c25) (of_eq_true c26)
   have e27_0_27 := (HS.keepc e27_0)
   have e27_1_27 := (HS.keepc e27_1)
   have e27_2_27 := (HS.keepc e27_2)
   have e27_3_27 := (HS.keepc e27_3)
   replace H := zbind H; obtain ⟨t28, ht28, H⟩ := H
   go_wp2_with (first | ((with_reducible refine gd 20 rfl ?_); refine ev_cl HS (laws_toWait.calls ht28.out) Tryz.func215 ?_; clear HS; (try clear F); intro wt28 HS F; obtain ⟨ad30, rfl, e30_0, e30_1, e30_2, e30_3⟩ := at_T274 (HS.rd 0 rfl) x22 (of_eq_true c25) (of_eq_true c26)) | ((with_reducible refine gate_store (p := 21) rfl ?_); refine ev_set rfl q274 0 [] x22 t28 HS (seg := [.int .i64 t28.f0, .int .i64 t28.f1, .string t28.f2, .int .i64 t28.f3]) rfl (by decide) rfl rfl rfl (by first | rfl | exact (Nat.mul_one _).symm) rfl rfl (by kernel_rfl) (by simp [Value.oneCell']) ⟨of_eq_true c25, of_eq_true c26⟩ rfl (made_flat (fun _ => q274_flat _ _ _)) ?_; clear HS; (try clear F); intro w31 HS; (try simp only [hpn, hpm] at HS)))
   go_roundg k19
   case measure => have := HKk19.out; omega
   case rel => exact ⟨_, _, rfl, H, ⟨by have := HKk19.out; omega⟩, HS.pick [0] (by decide) (by rfl)⟩
/-! ### laws_toAnswer: function 252 -/
def laws_toAnswer.f (k : Nat) (a0 : S304) : Option (S273) := ((laws_toStringS.f k a0.f2).bind fun t11 => ((laws_toStringS.f k a0.f3).bind fun t16 => (some (⟨a0.f0, a0.f1, t11, t16⟩ : S273))))
set_option maxHeartbeats 16000000 in
theorem laws_toAnswer.calls {k : Nat} {a0 : S304} {Ap0 : Option Addr} {np0 cp0 : Nat} {Ap1 : Option Addr} {np1 cp1 : Nat} {r : S273} {w : World} (h : laws_toAnswer.f k a0 = some r) (gp0 : Kd.string.C w Ap0 np0 a0.f2) (lp0 : np0 ≤ cp0) (gp1 : Kd.string.C w Ap1 np1 a0.f3) (lp1 : np1 ≤ cp1) :
    Calls Tryz.prog 252 #[.agg #[.int .i64 a0.f0, .int .i64 a0.f1, .slice Ap0 np0 cp0, .slice Ap1 np1 cp1]] w (fun e w' => ∃ v0_ v1_ : Value, e = .returned (.agg #[.int .i64 r.f0, .int .i64 r.f1, v0_, v1_]) ∧ Hp noFP w w' [.own (Zd.slice 9 Zd.string) r.f2 [v0_], .own (Zd.slice 9 Zd.string) r.f3 [v1_]]) := by
 obtain rfl := C_len gp0
 obtain rfl := C_len gp1
 have HS := Hp.start w
 have H := Aside0.mk h
 clear h
 unfold laws_toAnswer.f at H
 go_enter Tryz.func252, Tryz.ntmps252
 replace H := zbind H; obtain ⟨t11, ht11, H⟩ := H
 replace H := zbind H; obtain ⟨t16, ht16, H⟩ := H
 obtain rfl := zsome H
 go_wp2_with (first | ((with_reducible refine gd 1 rfl ?_); refine ev_bx HS ?_; clear HS; (try clear F); intro g1 w1 HS F) | ((with_reducible refine gd 2 rfl ?_); refine ev_bx HS ?_; clear HS; (try clear F); intro g2 w2 HS F) | ((with_reducible refine gd 3 rfl ?_); refine ev_bx HS ?_; clear HS; (try clear F); intro g3 w3 HS F) | ((with_reducible refine gate_store (p := 6) rfl ?_); refine ev_st 2 0 HS (seg := [.int .i64 a0.f0]) ?_; clear HS; (try clear F); intro w7 HS F) | ((with_reducible refine gate_store (p := 9) rfl ?_); refine ev_st 2 1 HS (seg := [.int .i64 a0.f1]) ?_; clear HS; (try clear F); intro w9 HS F) | ((with_reducible refine gd 12 rfl ?_); refine ev_cl1 HS (laws_toStringS.calls ht11.out (HS.ro gp0) lp0) Tryz.func95 ?_; clear HS; (try clear F); intro v12 wt11 HS F; obtain ⟨B12, d12, rfl, m12⟩ := HS.form 3 rfl) | ((with_reducible refine gate_store (p := 13) rfl ?_); refine ev_st 2 2 HS (seg := [.slice B12 t11.length d12]) ?_; clear HS; (try clear F); intro w14 HS F) | ((with_reducible refine gd 16 rfl ?_); refine ev_cl1 HS (laws_toStringS.calls ht16.out (HS.ro gp1) lp1) Tryz.func95 ?_; clear HS; (try clear F); intro v17 wt16 HS F; obtain ⟨B17, d17, rfl, m17⟩ := HS.form 4 rfl) | ((with_reducible refine gate_store (p := 17) rfl ?_); refine ev_st 2 3 HS (seg := [.slice B17 t16.length d17]) ?_; clear HS; (try clear F); intro w19 HS F) | ((with_reducible refine gate_store (p := 2) rfl ?_); refine ev_st 1 0 HS (seg := [.int .i64 a0.f0, .int .i64 a0.f1, .slice B12 t11.length d12, .slice B17 t16.length d17]) ?_; clear HS; (try clear F); intro w21 HS F))
 exact bodyPost_ret (results_single rfl (.cell _ _ _ _ _ rfl (HS.boxAt (i := 1) rfl) Tryz.underlying273 rfl (by kernel_rfl) .nil)) rfl ⟨_, _, rfl, HS.pick [3, 4] (by decide) (by rfl)⟩
/-! ### laws_toAnswerS: function 240 -/
def laws_toAnswerS.l0 : Nat → (List S273) → Int → (List S304) → Option ((List S273))
  | 0, _, _, _ => none
  | k + 1, l22, x24, a0 => (if x24 < (a0.length : Int) then (if 0 ≤ x24 then (if x24 < (a0.length : Int) then ((laws_toAnswer.f k (rd_T304 a0 x24)).bind fun t30 => (laws_toAnswerS.l0 k (l22.set (x24).toNat t30) (wrap64 (x24 + 1)) a0)) else none) else none) else (some l22))
def laws_toAnswerS.f (k : Nat) (a0 : (List S304)) : Option ((List S273)) := (if 0 ≤ (a0.length : Int) then (if ((a0.length : Int)).toNat ≤ 4398046511104 then (laws_toAnswerS.l0 k (List.replicate a0.length z273) 0 a0) else none) else none)
set_option maxHeartbeats 16000000 in
theorem laws_toAnswerS.calls {k : Nat} {a0 : (List S304)} {Ap0 : Option Addr} {np0 cp0 : Nat} {r : (List S273)} {w : World} (h : laws_toAnswerS.f k a0 = some r) (gp0 : k304.C w Ap0 np0 a0) (lp0 : np0 ≤ cp0) :
    Calls Tryz.prog 240 #[.slice Ap0 np0 cp0] w (fun e w' => ∃ v0_ : Value, e = .returned (v0_) ∧ Hp noFP w w' [.own (Zd.slice 273 q273) r [v0_]]) := by
 obtain rfl := C_len gp0
 have HS := Hp.start w
 have H := Aside0.mk h
 clear h
 unfold laws_toAnswerS.f at H
 go_enter Tryz.func240, Tryz.ntmps240
 replace H := zgo H; obtain ⟨c1, H⟩ := H
 replace H := zgo H; obtain ⟨c2, H⟩ := H
 go_wp2_with (first | ((with_reducible refine gd 7 rfl ?_); refine ev_make rfl q273 z273 HS rfl (a0.length : Int) rfl rfl Tryz.underlying219 info273 rfl (by decide) (by decide) q273_zero (of_eq_true c1) (by have := of_eq_true c2; omega) ?_; clear HS; (try clear F); intro v3 w3 HS; obtain ⟨B3, d3, rfl, m3⟩ := HS.formn a0.length 0 rfl (by first | rfl | simp); (try simp only [hpn, hpm] at HS)))
 go_loopg [4] k (fun kq v_4 w' => ∃ (l22 : List S273) (x24 : Int), v_4 = .int .i64 x24 ∧ Aside0 (laws_toAnswerS.l0 kq l22 x24 a0 = some r) ∧ Aside0 (kq ≤ k) ∧ Hp noFP w w' [.own (Zd.slice 273 q273) l22 [.slice B3 a0.length d3]])
 case atStart => exact ⟨_, _, rfl, H, ⟨Nat.le_refl _⟩, HS⟩
 case round =>
  clear HS H; (try clear F)
  obtain ⟨l22, x24, rfl, H, HKk21, HS⟩ := hrel
  cases gk with
  | zero => exact absurd H.out (by simp [laws_toAnswerS.l0])
  | succ k21 =>
   simp only [laws_toAnswerS.l0] at H
   replace H := znif H; rcases H with ⟨c26, H⟩ | ⟨c26, H⟩
   case inl =>
    obtain rfl := zsome H
    go_wp2
    exact bodyPost_ret (results_single rfl (.tmp .nil)) rfl ⟨_, rfl, HS.pick [0] (by decide) (by rfl)⟩
   replace H := zgo H; obtain ⟨c27, H⟩ := H
   replace H := zgo H; obtain ⟨c28, H⟩ := H
   obtain ⟨ad29, B29_2, d29_2, B29_3, d29_3, rfl, e29_0, e29_1, e29_2, e29_3, m29_2, y29_2, m29_3, y29_3⟩ := at_T304 gp0 x24 (of_eq_true c27) (of_eq_true c28)
   have e29_0_29 := (HS.keepc e29_0)
   have e29_1_29 := (HS.keepc e29_1)
   have e29_2_29 := (HS.keepc e29_2)
   have e29_3_29 := (HS.keepc e29_3)
   replace H := zbind H; obtain ⟨t30, ht30, H⟩ := H
   go_wp2_with (first | ((with_reducible refine gd 20 rfl ?_); refine ev_cl2 HS (laws_toAnswer.calls ht30.out (HS.ro y29_2) m29_2 (HS.ro y29_3) m29_3) Tryz.func252 ?_; clear HS; (try clear F); intro v31 v32 wt30 HS F; obtain ⟨B31, d31, rfl, m31⟩ := HS.form 1 rfl; obtain ⟨B32, d32, rfl, m32⟩ := HS.form 2 rfl; obtain ⟨ad34, B34_2, d34_2, B34_3, d34_3, rfl, e34_0, e34_1, e34_2, e34_3, m34_2, y34_2, m34_3, y34_3⟩ := at_T273 (HS.rd 0 rfl) x24 (of_eq_true c27) (of_eq_true c28)) | ((with_reducible refine gate_store (p := 21) rfl ?_); refine ev_set rfl q273 0 [1, 2] x24 t30 HS (seg := [.int .i64 t30.f0, .int .i64 t30.f1, .slice B31 t30.f2.length d31, .slice B32 t30.f3.length d32]) rfl (by decide) rfl rfl rfl (by first | rfl | exact (Nat.mul_one _).symm) rfl rfl (by kernel_rfl) (by simp [Value.oneCell']) ⟨of_eq_true c27, of_eq_true c28⟩ rfl (fun S hd hh => q273_pack (x := t30) hd (hh 1 (.own (Zd.slice 9 Zd.string) t30.f2 [.slice B31 t30.f2.length d31]) rfl) (hh 2 (.own (Zd.slice 9 Zd.string) t30.f3 [.slice B32 t30.f3.length d32]) rfl) (by decide)) ?_; clear HS; (try clear F); intro w35 HS; (try simp only [hpn, hpm] at HS)))
   go_roundg k21
   case measure => have := HKk21.out; omega
   case rel => exact ⟨_, _, rfl, H, ⟨by have := HKk21.out; omega⟩, HS.pick [0] (by decide) (by rfl)⟩
end Go.Proofs.YtacocpknielofaaGreatDoor.F
