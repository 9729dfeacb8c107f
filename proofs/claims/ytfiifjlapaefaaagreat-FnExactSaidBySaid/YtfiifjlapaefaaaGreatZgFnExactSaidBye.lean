/- Functions of the program and of the law, and that their calls do what is written here. -/
import Derived.Test.YtfiifjlapaefaaaGreatZgFnExactSaidByd
namespace Go.Proofs.YtfiifjlapaefaaaGreat.F
open Go.RowKit Go.Proofs.YtfiifjlapaefaaaGreatW.PrintWords Go.Proofs.YtfiifjlapaefaaaGreatW.PrintLast Go.Proofs.YtfiifjlapaefaaaGreatW.PrintMore Go.Proofs.YtfiifjlapaefaaaGreat.Z
attribute [local go_sem] max2_int min2_int max_two min_two max_three min_three max_four min_four
set_option linter.unusedVariables false
set_option linter.unusedSimpArgs false
set_option maxRecDepth 100000
/-! ### laws_toCrlS: function 80 -/
def laws_toCrlS.l0 : Nat → (List S198) → Int → (List S187) → Option ((List S198))
  | 0, _, _, _ => none
  | k + 1, l21, x23, a0 => (if x23 < (a0.length : Int) then (if 0 ≤ x23 then (if x23 < (a0.length : Int) then ((laws_toCrl.f k (rd_T187 a0 x23)).bind fun t29 => (laws_toCrlS.l0 k (l21.set (x23).toNat t29) (wrap64 (x23 + 1)) a0)) else none) else none) else (some l21))
def laws_toCrlS.f (k : Nat) (a0 : (List S187)) : Option ((List S198)) := (if 0 ≤ (a0.length : Int) then (if ((a0.length : Int)).toNat ≤ 3198579280802 then (laws_toCrlS.l0 k (List.replicate a0.length z198) 0 a0) else none) else none)
set_option maxHeartbeats 16000000 in
theorem laws_toCrlS.calls {k : Nat} {a0 : (List S187)} {Ap0 : Option Addr} {np0 cp0 : Nat} {r : (List S198)} {w : World} (h : laws_toCrlS.f k a0 = some r) (gp0 : k187.C w Ap0 np0 a0) (lp0 : np0 ≤ cp0) :
    Calls Tryz.prog 80 #[.slice Ap0 np0 cp0] w (fun e w' => ∃ v0_ : Value, e = .returned (v0_) ∧ Hp noFP w w' [.own (Zd.slice 198 q198) r [v0_]]) := by
 obtain rfl := C_len gp0
 have HS := Hp.start w
 have H := Aside0.mk h
 clear h
 unfold laws_toCrlS.f at H
 go_enter Tryz.func80, Tryz.ntmps80
 replace H := zgo H; obtain ⟨c1, H⟩ := H
 replace H := zgo H; obtain ⟨c2, H⟩ := H
 go_wp2_with (first | ((with_reducible refine gd 7 rfl ?_); refine ev_make rfl q198 z198 HS rfl (a0.length : Int) rfl rfl Tryz.underlying44 info198 rfl (by decide) (by decide) q198_zero (of_eq_true c1) (by have := of_eq_true c2; omega) ?_; clear HS; (try clear F); intro v3 w3 HS; obtain ⟨B3, d3, rfl, m3⟩ := HS.formn a0.length 0 rfl (by first | rfl | simp); (try simp only [hpn, hpm] at HS)))
 go_loopg [4] k (fun kq v_4 w' => ∃ (l21 : List S198) (x23 : Int), v_4 = .int .i64 x23 ∧ Aside0 (laws_toCrlS.l0 kq l21 x23 a0 = some r) ∧ Aside0 (kq ≤ k) ∧ Hp noFP w w' [.own (Zd.slice 198 q198) l21 [.slice B3 a0.length d3]])
 case atStart => exact ⟨_, _, rfl, H, ⟨Nat.le_refl _⟩, HS⟩
 case round =>
  clear HS H; (try clear F)
  obtain ⟨l21, x23, rfl, H, HKk20, HS⟩ := hrel
  cases gk with
  | zero => exact absurd H.out (by simp [laws_toCrlS.l0])
  | succ k20 =>
   simp only [laws_toCrlS.l0] at H
   replace H := znif H; rcases H with ⟨c25, H⟩ | ⟨c25, H⟩
   case inl =>
    obtain rfl := zsome H
    go_wp2
    exact bodyPost_ret (results_single rfl (.tmp .nil)) rfl ⟨_, rfl, HS.pick [0] (by decide) (by rfl)⟩
   replace H := zgo H; obtain ⟨c26, H⟩ := H
   replace H := zgo H; obtain ⟨c27, H⟩ := H
   obtain ⟨ad28, B28_5, d28_5, rfl, e28_0, e28_1, e28_2, e28_3, e28_4, e28_5, e28_6, m28_5, y28_5⟩ := at_T187 gp0 x23 (of_eq_true c26) (of_eq_true c27)
   have e28_0_28 := (HS.keepc e28_0)
   have e28_1_28 := (HS.keepc e28_1)
   have e28_2_28 := (HS.keepc e28_2)
   have e28_3_28 := (HS.keepc e28_3)
   have e28_4_28 := (HS.keepc e28_4)
   have e28_5_28 := (HS.keepc e28_5)
   have e28_6_28 := (HS.keepc e28_6)
   replace H := zbind H; obtain ⟨t29, ht29, H⟩ := H
   go_wp2_with (first | ((with_reducible refine gd 20 rfl ?_); refine ev_cl1 HS (laws_toCrl.calls ht29.out (HS.ro y28_5) m28_5) Tryz.func109 ?_; clear HS; (try clear F); intro v30 wt29 HS F; obtain ⟨B30, d30, rfl, m30⟩ := HS.form 1 rfl; obtain ⟨ad32, B32_5, d32_5, rfl, e32_0, e32_1, e32_2, e32_3, e32_4, e32_5, e32_6, m32_5, y32_5⟩ := at_T198 (HS.rd 0 rfl) x23 (of_eq_true c26) (of_eq_true c27)) | ((with_reducible refine gate_store (p := 21) rfl ?_); refine ev_set rfl q198 0 [1] x23 t29 HS (seg := [.string t29.f0, .int .i64 t29.f1, .int .i64 t29.f2, .int .i64 t29.f3, .int .i64 t29.f4, .slice B30 t29.f5.length d30, .string t29.f6]) rfl (by decide) rfl rfl rfl (by first | rfl | exact (Nat.mul_one _).symm) rfl rfl (by kernel_rfl) (by simp [Value.oneCell']) ⟨of_eq_true c26, of_eq_true c27⟩ rfl (fun S hd hh => q198_pack (x := t29) hd (hh 1 (.own (Zd.slice 222 q222) t29.f5 [.slice B30 t29.f5.length d30]) rfl) (by decide)) ?_; clear HS; (try clear F); intro w33 HS; (try simp only [hpn, hpm] at HS)))
   go_roundg k20
   case measure => have := HKk20.out; omega
   case rel => exact ⟨_, _, rfl, H, ⟨by have := HKk20.out; omega⟩, HS.pick [0] (by decide) (by rfl)⟩
/-! ### laws_toAnchor: function 110 -/
def laws_toAnchor.f (a0 : S190) : Option (S200) := (some (⟨a0.f0, a0.f1⟩ : S200))
set_option maxHeartbeats 16000000 in
theorem laws_toAnchor.calls {a0 : S190} {r : S200} {w : World} (h : laws_toAnchor.f a0 = some r) :
    Calls Tryz.prog 110 #[.agg #[.string a0.f0, .string a0.f1]] w (fun e w' => e = .returned (.agg #[.string r.f0, .string r.f1]) ∧ Hp noFP w w' []) := by
 have HS := Hp.start w
 have H := Aside0.mk h
 clear h
 unfold laws_toAnchor.f at H
 go_enter Tryz.func110, Tryz.ntmps110
 obtain rfl := zsome H
 go_wp2_with (first | ((with_reducible refine gd 1 rfl ?_); refine ev_bx HS ?_; clear HS; (try clear F); intro g1 w1 HS F) | ((with_reducible refine gd 2 rfl ?_); refine ev_bx HS ?_; clear HS; (try clear F); intro g2 w2 HS F) | ((with_reducible refine gd 3 rfl ?_); refine ev_bx HS ?_; clear HS; (try clear F); intro g3 w3 HS F) | ((with_reducible refine gate_store (p := 6) rfl ?_); refine ev_st 2 0 HS (seg := [.string a0.f0]) ?_; clear HS; (try clear F); intro w7 HS F) | ((with_reducible refine gate_store (p := 9) rfl ?_); refine ev_st 2 1 HS (seg := [.string a0.f1]) ?_; clear HS; (try clear F); intro w9 HS F) | ((with_reducible refine gate_store (p := 2) rfl ?_); refine ev_st 1 0 HS (seg := [.string a0.f0, .string a0.f1]) ?_; clear HS; (try clear F); intro w11 HS F))
 exact bodyPost_ret (results_single rfl (.cell _ _ _ _ _ rfl (HS.boxAt (i := 1) rfl) Tryz.underlying200 rfl (by kernel_rfl) .nil)) rfl ⟨rfl, HS.pick [] (by decide) (by rfl)⟩
/-! ### laws_toAnchorS: function 81 -/
def laws_toAnchorS.l0 : Nat → (List S200) → Int → (List S190) → Option ((List S200))
  | 0, _, _, _ => none
  | k + 1, l20, x22, a0 => (if x22 < (a0.length : Int) then (if 0 ≤ x22 then (if x22 < (a0.length : Int) then ((laws_toAnchor.f (rd_T190 a0 x22)).bind fun t28 => (laws_toAnchorS.l0 k (l20.set (x22).toNat t28) (wrap64 (x22 + 1)) a0)) else none) else none) else (some l20))
def laws_toAnchorS.f (k : Nat) (a0 : (List S190)) : Option ((List S200)) := (if 0 ≤ (a0.length : Int) then (if ((a0.length : Int)).toNat ≤ 8796093022208 then (laws_toAnchorS.l0 k (List.replicate a0.length z200) 0 a0) else none) else none)
set_option maxHeartbeats 16000000 in
theorem laws_toAnchorS.calls {k : Nat} {a0 : (List S190)} {Ap0 : Option Addr} {np0 cp0 : Nat} {r : (List S200)} {w : World} (h : laws_toAnchorS.f k a0 = some r) (gp0 : k190.C w Ap0 np0 a0) (lp0 : np0 ≤ cp0) :
    Calls Tryz.prog 81 #[.slice Ap0 np0 cp0] w (fun e w' => ∃ v0_ : Value, e = .returned (v0_) ∧ Hp noFP w w' [.own (Zd.slice 200 q200) r [v0_]]) := by
 obtain rfl := C_len gp0
 have HS := Hp.start w
 have H := Aside0.mk h
 clear h
 unfold laws_toAnchorS.f at H
 go_enter Tryz.func81, Tryz.ntmps81
 replace H := zgo H; obtain ⟨c1, H⟩ := H
 replace H := zgo H; obtain ⟨c2, H⟩ := H
 go_wp2_with (first | ((with_reducible refine gd 7 rfl ?_); refine ev_make rfl q200 z200 HS rfl (a0.length : Int) rfl rfl Tryz.underlying45 info200 rfl (by decide) (by decide) q200_zero (of_eq_true c1) (by have := of_eq_true c2; omega) ?_; clear HS; (try clear F); intro v3 w3 HS; obtain ⟨B3, d3, rfl, m3⟩ := HS.formn a0.length 0 rfl (by first | rfl | simp); (try simp only [hpn, hpm] at HS)))
 go_loopg [4] k (fun kq v_4 w' => ∃ (l20 : List S200) (x22 : Int), v_4 = .int .i64 x22 ∧ Aside0 (laws_toAnchorS.l0 kq l20 x22 a0 = some r) ∧ Aside0 (kq ≤ k) ∧ Hp noFP w w' [.own (Zd.slice 200 q200) l20 [.slice B3 a0.length d3]])
 case atStart => exact ⟨_, _, rfl, H, ⟨Nat.le_refl _⟩, HS⟩
 case round =>
  clear HS H; (try clear F)
  obtain ⟨l20, x22, rfl, H, HKk19, HS⟩ := hrel
  cases gk with
  | zero => exact absurd H.out (by simp [laws_toAnchorS.l0])
  | succ k19 =>
   simp only [laws_toAnchorS.l0] at H
   replace H := znif H; rcases H with ⟨c24, H⟩ | ⟨c24, H⟩
   case inl =>
    obtain rfl := zsome H
    go_wp2
    exact bodyPost_ret (results_single rfl (.tmp .nil)) rfl ⟨_, rfl, HS.pick [0] (by decide) (by rfl)⟩
   replace H := zgo H; obtain ⟨c25, H⟩ := H
   replace H := zgo H; obtain ⟨c26, H⟩ := H
   obtain ⟨ad27, rfl, e27_0, e27_1⟩ := at_T190 gp0 x22 (of_eq_true c25) (of_eq_true c26)
   have e27_0_27 := (HS.keepc e27_0)
   have e27_1_27 := (HS.keepc e27_1)
   replace H := zbind H; obtain ⟨t28, ht28, H⟩ := H
   go_wp2_with (first | ((with_reducible refine gd 20 rfl ?_); refine ev_cl HS (laws_toAnchor.calls ht28.out) Tryz.func110 ?_; clear HS; (try clear F); intro wt28 HS F; obtain ⟨ad30, rfl, e30_0, e30_1⟩ := at_T200 (HS.rd 0 rfl) x22 (of_eq_true c25) (of_eq_true c26)) | ((with_reducible refine gate_store (p := 21) rfl ?_); refine ev_set rfl q200 0 [] x22 t28 HS (seg := [.string t28.f0, .string t28.f1]) rfl (by decide) rfl rfl rfl (by first | rfl | exact (Nat.mul_one _).symm) rfl rfl (by kernel_rfl) (by simp [Value.oneCell']) ⟨of_eq_true c25, of_eq_true c26⟩ rfl (made_flat (fun _ => q200_flat _ _ _)) ?_; clear HS; (try clear F); intro w31 HS; (try simp only [hpn, hpm] at HS)))
   go_roundg k19
   case measure => have := HKk19.out; omega
   case rel => exact ⟨_, _, rfl, H, ⟨by have := HKk19.out; omega⟩, HS.pick [0] (by decide) (by rfl)⟩
/-! ### laws_toStore: function 46 -/
def laws_toStore.f (k : Nat) (a0 : S26) : Option (S47) := ((laws_toCertS.f k a0.f0).bind fun t7 => ((laws_toCrlS.f k a0.f1).bind fun t12 => ((laws_toAnchorS.f k a0.f2).bind fun t17 => (some (⟨t7, t12, t17⟩ : S47)))))
set_option maxHeartbeats 16000000 in
theorem laws_toStore.calls {k : Nat} {a0 : S26} {Ap0 : Option Addr} {np0 cp0 : Nat} {Ap1 : Option Addr} {np1 cp1 : Nat} {Ap2 : Option Addr} {np2 cp2 : Nat} {r : S47} {w : World} (h : laws_toStore.f k a0 = some r) (gp0 : k99.C w Ap0 np0 a0.f0) (lp0 : np0 ≤ cp0) (gp1 : k187.C w Ap1 np1 a0.f1) (lp1 : np1 ≤ cp1) (gp2 : k190.C w Ap2 np2 a0.f2) (lp2 : np2 ≤ cp2) :
    Calls Tryz.prog 46 #[.agg #[.slice Ap0 np0 cp0, .slice Ap1 np1 cp1, .slice Ap2 np2 cp2]] w (fun e w' => ∃ v0_ v1_ v2_ : Value, e = .returned (.agg #[v0_, v1_, v2_]) ∧ Hp noFP w w' [.own (Zd.slice 118 q118) r.f0 [v0_], .own (Zd.slice 198 q198) r.f1 [v1_], .own (Zd.slice 200 q200) r.f2 [v2_]]) := by
 obtain rfl := C_len gp0
 obtain rfl := C_len gp1
 obtain rfl := C_len gp2
 have HS := Hp.start w
 have H := Aside0.mk h
 clear h
 unfold laws_toStore.f at H
 go_enter Tryz.func46, Tryz.ntmps46
 replace H := zbind H; obtain ⟨t7, ht7, H⟩ := H
 replace H := zbind H; obtain ⟨t12, ht12, H⟩ := H
 replace H := zbind H; obtain ⟨t17, ht17, H⟩ := H
 obtain rfl := zsome H
 go_wp2_with (first | ((with_reducible refine gd 1 rfl ?_); refine ev_bx HS ?_; clear HS; (try clear F); intro g1 w1 HS F) | ((with_reducible refine gd 2 rfl ?_); refine ev_bx HS ?_; clear HS; (try clear F); intro g2 w2 HS F) | ((with_reducible refine gd 3 rfl ?_); refine ev_bx HS ?_; clear HS; (try clear F); intro g3 w3 HS F) | ((with_reducible refine gd 6 rfl ?_); refine ev_cl1 HS (laws_toCertS.calls ht7.out (HS.ro gp0) lp0) Tryz.func20 ?_; clear HS; (try clear F); intro v8 wt7 HS F; obtain ⟨B8, d8, rfl, m8⟩ := HS.form 3 rfl) | ((with_reducible refine gate_store (p := 7) rfl ?_); refine ev_st 2 0 HS (seg := [.slice B8 t7.length d8]) ?_; clear HS; (try clear F); intro w10 HS F) | ((with_reducible refine gd 10 rfl ?_); refine ev_cl1 HS (laws_toCrlS.calls ht12.out (HS.ro gp1) lp1) Tryz.func80 ?_; clear HS; (try clear F); intro v13 wt12 HS F; obtain ⟨B13, d13, rfl, m13⟩ := HS.form 4 rfl) | ((with_reducible refine gate_store (p := 11) rfl ?_); refine ev_st 2 1 HS (seg := [.slice B13 t12.length d13]) ?_; clear HS; (try clear F); intro w15 HS F) | ((with_reducible refine gd 14 rfl ?_); refine ev_cl1 HS (laws_toAnchorS.calls ht17.out (HS.ro gp2) lp2) Tryz.func81 ?_; clear HS; (try clear F); intro v18 wt17 HS F; obtain ⟨B18, d18, rfl, m18⟩ := HS.form 5 rfl) | ((with_reducible refine gate_store (p := 15) rfl ?_); refine ev_st 2 2 HS (seg := [.slice B18 t17.length d18]) ?_; clear HS; (try clear F); intro w20 HS F) | ((with_reducible refine gate_store (p := 2) rfl ?_); refine ev_st 1 0 HS (seg := [.slice B8 t7.length d8, .slice B13 t12.length d13, .slice B18 t17.length d18]) ?_; clear HS; (try clear F); intro w22 HS F))
 exact bodyPost_ret (results_single rfl (.cell _ _ _ _ _ rfl (HS.boxAt (i := 1) rfl) Tryz.underlying47 rfl (by kernel_rfl) .nil)) rfl ⟨_, _, _, rfl, HS.pick [3, 4, 5] (by decide) (by rfl)⟩
/-! ### laws_toRules: function 111 -/
def laws_toRules.f (k : Nat) (a0 : S138) : Option (S163) := ((laws_toIntS.f k a0.f1).bind fun t9 => (some (⟨a0.f0, t9, a0.f2, a0.f3, a0.f4⟩ : S163)))
set_option maxHeartbeats 16000000 in
theorem laws_toRules.calls {k : Nat} {a0 : S138} {Ap0 : Option Addr} {np0 cp0 : Nat} {r : S163} {w : World} (h : laws_toRules.f k a0 = some r) (gp0 : (Kd.int .i64).C w Ap0 np0 a0.f1) (lp0 : np0 ≤ cp0) :
    Calls Tryz.prog 111 #[.agg #[.int .i64 a0.f0, .slice Ap0 np0 cp0, .bool a0.f2, .bool a0.f3, .int .i64 a0.f4]] w (fun e w' => ∃ v0_ : Value, e = .returned (.agg #[.int .i64 r.f0, v0_, .bool r.f2, .bool r.f3, .int .i64 r.f4]) ∧ Hp noFP w w' [.own (Zd.slice 3 (Zd.int .i64)) r.f1 [v0_]]) := by
 obtain rfl := C_len gp0
 have HS := Hp.start w
 have H := Aside0.mk h
 clear h
 unfold laws_toRules.f at H
 go_enter Tryz.func111, Tryz.ntmps111
 replace H := zbind H; obtain ⟨t9, ht9, H⟩ := H
 obtain rfl := zsome H
 go_wp2_with (first | ((with_reducible refine gd 1 rfl ?_); refine ev_bx HS ?_; clear HS; (try clear F); intro g1 w1 HS F) | ((with_reducible refine gd 2 rfl ?_); refine ev_bx HS ?_; clear HS; (try clear F); intro g2 w2 HS F) | ((with_reducible refine gd 3 rfl ?_); refine ev_bx HS ?_; clear HS; (try clear F); intro g3 w3 HS F) | ((with_reducible refine gate_store (p := 6) rfl ?_); refine ev_st 2 0 HS (seg := [.int .i64 a0.f0]) ?_; clear HS; (try clear F); intro w7 HS F) | ((with_reducible refine gd 9 rfl ?_); refine ev_cl1 HS (laws_toIntS.calls ht9.out (HS.ro gp0) lp0) Tryz.func22 ?_; clear HS; (try clear F); intro v10 wt9 HS F; obtain ⟨B10, d10, rfl, m10⟩ := HS.form 3 rfl) | ((with_reducible refine gate_store (p := 10) rfl ?_); refine ev_st 2 1 HS (seg := [.slice B10 t9.length d10]) ?_; clear HS; (try clear F); intro w12 HS F) | ((with_reducible refine gate_store (p := 13) rfl ?_); refine ev_st 2 2 HS (seg := [.bool a0.f2]) ?_; clear HS; (try clear F); intro w14 HS F) | ((with_reducible refine gate_store (p := 16) rfl ?_); refine ev_st 2 3 HS (seg := [.bool a0.f3]) ?_; clear HS; (try clear F); intro w16 HS F) | ((with_reducible refine gate_store (p := 19) rfl ?_); refine ev_st 2 4 HS (seg := [.int .i64 a0.f4]) ?_; clear HS; (try clear F); intro w18 HS F) | ((with_reducible refine gate_store (p := 2) rfl ?_); refine ev_st 1 0 HS (seg := [.int .i64 a0.f0, .slice B10 t9.length d10, .bool a0.f2, .bool a0.f3, .int .i64 a0.f4]) ?_; clear HS; (try clear F); intro w20 HS F))
 exact bodyPost_ret (results_single rfl (.cell _ _ _ _ _ rfl (HS.boxAt (i := 1) rfl) Tryz.underlying163 rfl (by kernel_rfl) .nil)) rfl ⟨_, rfl, HS.pick [3] (by decide) (by rfl)⟩
/-! ### laws_toPlan: function 82 -/
def laws_toPlan.f (k : Nat) (a0 : S140) : Option (S165) := ((laws_toIntS.f k a0.f1).bind fun t9 => ((laws_toRules.f k a0.f2).bind fun t14 => (some (⟨a0.f0, t9, (⟨t14.f0, t14.f1, t14.f2, t14.f3, t14.f4⟩ : S163)⟩ : S165))))
set_option maxHeartbeats 16000000 in
theorem laws_toPlan.calls {k : Nat} {a0 : S140} {Ap0 : Option Addr} {np0 cp0 : Nat} {Ap1 : Option Addr} {np1 cp1 : Nat} {r : S165} {w : World} (h : laws_toPlan.f k a0 = some r) (gp0 : (Kd.int .i64).C w Ap0 np0 a0.f1) (lp0 : np0 ≤ cp0) (gp1 : (Kd.int .i64).C w Ap1 np1 a0.f2.f1) (lp1 : np1 ≤ cp1) :
    Calls Tryz.prog 82 #[.agg #[.int .i64 a0.f0, .slice Ap0 np0 cp0, .int .i64 a0.f2.f0, .slice Ap1 np1 cp1, .bool a0.f2.f2, .bool a0.f2.f3, .int .i64 a0.f2.f4]] w (fun e w' => ∃ v0_ v1_ : Value, e = .returned (.agg #[.int .i64 r.f0, v0_, .int .i64 r.f2.f0, v1_, .bool r.f2.f2, .bool r.f2.f3, .int .i64 r.f2.f4]) ∧ Hp noFP w w' [.own (Zd.slice 3 (Zd.int .i64)) r.f1 [v0_], .own (Zd.slice 3 (Zd.int .i64)) r.f2.f1 [v1_]]) := by
 obtain rfl := C_len gp0
 obtain rfl := C_len gp1
 have HS := Hp.start w
 have H := Aside0.mk h
 clear h
 unfold laws_toPlan.f at H
 go_enter Tryz.func82, Tryz.ntmps82
 replace H := zbind H; obtain ⟨t9, ht9, H⟩ := H
 replace H := zbind H; obtain ⟨t14, ht14, H⟩ := H
 obtain rfl := zsome H
 go_wp2_with (first | ((with_reducible refine gd 1 rfl ?_); refine ev_bx HS ?_; clear HS; (try clear F); intro g1 w1 HS F) | ((with_reducible refine gd 2 rfl ?_); refine ev_bx HS ?_; clear HS; (try clear F); intro g2 w2 HS F) | ((with_reducible refine gd 3 rfl ?_); refine ev_bx HS ?_; clear HS; (try clear F); intro g3 w3 HS F) | ((with_reducible refine gate_store (p := 6) rfl ?_); refine ev_st 2 0 HS (seg := [.int .i64 a0.f0]) ?_; clear HS; (try clear F); intro w7 HS F) | ((with_reducible refine gd 9 rfl ?_); refine ev_cl1 HS (laws_toIntS.calls ht9.out (HS.ro gp0) lp0) Tryz.func22 ?_; clear HS; (try clear F); intro v10 wt9 HS F; obtain ⟨B10, d10, rfl, m10⟩ := HS.form 3 rfl) | ((with_reducible refine gate_store (p := 10) rfl ?_); refine ev_st 2 1 HS (seg := [.slice B10 t9.length d10]) ?_; clear HS; (try clear F); intro w12 HS F) | ((with_reducible refine gd 13 rfl ?_); refine ev_cl1 HS (laws_toRules.calls ht14.out (HS.ro gp1) lp1) Tryz.func111 ?_; clear HS; (try clear F); intro v15 wt14 HS F; obtain ⟨B15, d15, rfl, m15⟩ := HS.form 4 rfl) | ((with_reducible refine gate_store (p := 14) rfl ?_); refine ev_st 2 2 HS (seg := [.int .i64 t14.f0, .slice B15 t14.f1.length d15, .bool t14.f2, .bool t14.f3, .int .i64 t14.f4]) ?_; clear HS; (try clear F); intro w17 HS F) | ((with_reducible refine gate_store (p := 2) rfl ?_); refine ev_st 1 0 HS (seg := [.int .i64 a0.f0, .slice B10 t9.length d10, .int .i64 t14.f0, .slice B15 t14.f1.length d15, .bool t14.f2, .bool t14.f3, .int .i64 t14.f4]) ?_; clear HS; (try clear F); intro w19 HS F))
 exact bodyPost_ret (results_single rfl (.cell _ _ _ _ _ rfl (HS.boxAt (i := 1) rfl) Tryz.underlying165 rfl (by kernel_rfl) .nil)) rfl ⟨_, _, rfl, HS.pick [3, 4] (by decide) (by rfl)⟩
/-! ### laws_toPlanS: function 47 -/
def laws_toPlanS.l0 : Nat → (List S165) → Int → (List S140) → Option ((List S165))
  | 0, _, _, _ => none
  | k + 1, l22, x24, a0 => (if x24 < (a0.length : Int) then (if 0 ≤ x24 then (if x24 < (a0.length : Int) then ((laws_toPlan.f k (rd_T140 a0 x24)).bind fun t30 => (laws_toPlanS.l0 k (l22.set (x24).toNat t30) (wrap64 (x24 + 1)) a0)) else none) else none) else (some l22))
def laws_toPlanS.f (k : Nat) (a0 : (List S140)) : Option ((List S165)) := (if 0 ≤ (a0.length : Int) then (if ((a0.length : Int)).toNat ≤ 3518437208883 then (laws_toPlanS.l0 k (List.replicate a0.length z165) 0 a0) else none) else none)
set_option maxHeartbeats 16000000 in
theorem laws_toPlanS.calls {k : Nat} {a0 : (List S140)} {Ap0 : Option Addr} {np0 cp0 : Nat} {r : (List S165)} {w : World} (h : laws_toPlanS.f k a0 = some r) (gp0 : k140.C w Ap0 np0 a0) (lp0 : np0 ≤ cp0) :
    Calls Tryz.prog 47 #[.slice Ap0 np0 cp0] w (fun e w' => ∃ v0_ : Value, e = .returned (v0_) ∧ Hp noFP w w' [.own (Zd.slice 165 q165) r [v0_]]) := by
 obtain rfl := C_len gp0
 have HS := Hp.start w
 have H := Aside0.mk h
 clear h
 unfold laws_toPlanS.f at H
 go_enter Tryz.func47, Tryz.ntmps47
 replace H := zgo H; obtain ⟨c1, H⟩ := H
 replace H := zgo H; obtain ⟨c2, H⟩ := H
 go_wp2_with (first | ((with_reducible refine gd 7 rfl ?_); refine ev_make rfl q165 z165 HS rfl (a0.length : Int) rfl rfl Tryz.underlying48 info165 rfl (by decide) (by decide) q165_zero (of_eq_true c1) (by have := of_eq_true c2; omega) ?_; clear HS; (try clear F); intro v3 w3 HS; obtain ⟨B3, d3, rfl, m3⟩ := HS.formn a0.length 0 rfl (by first | rfl | simp); (try simp only [hpn, hpm] at HS)))
 go_loopg [4] k (fun kq v_4 w' => ∃ (l22 : List S165) (x24 : Int), v_4 = .int .i64 x24 ∧ Aside0 (laws_toPlanS.l0 kq l22 x24 a0 = some r) ∧ Aside0 (kq ≤ k) ∧ Hp noFP w w' [.own (Zd.slice 165 q165) l22 [.slice B3 a0.length d3]])
 case atStart => exact ⟨_, _, rfl, H, ⟨Nat.le_refl _⟩, HS⟩
 case round =>
  clear HS H; (try clear F)
  obtain ⟨l22, x24, rfl, H, HKk21, HS⟩ := hrel
  cases gk with
  | zero => exact absurd H.out (by simp [laws_toPlanS.l0])
  | succ k21 =>
   simp only [laws_toPlanS.l0] at H
   replace H := znif H; rcases H with ⟨c26, H⟩ | ⟨c26, H⟩
   case inl =>
    obtain rfl := zsome H
    go_wp2
    exact bodyPost_ret (results_single rfl (.tmp .nil)) rfl ⟨_, rfl, HS.pick [0] (by decide) (by rfl)⟩
   replace H := zgo H; obtain ⟨c27, H⟩ := H
   replace H := zgo H; obtain ⟨c28, H⟩ := H
   obtain ⟨ad29, B29_1, d29_1, B29_3, d29_3, rfl, e29_0, e29_1, e29_2, e29_3, e29_4, e29_5, e29_6, m29_1, y29_1, m29_3, y29_3⟩ := at_T140 gp0 x24 (of_eq_true c27) (of_eq_true c28)
   have e29_0_29 := (HS.keepc e29_0)
   have e29_1_29 := (HS.keepc e29_1)
   have e29_2_29 := (HS.keepc e29_2)
   have e29_3_29 := (HS.keepc e29_3)
   have e29_4_29 := (HS.keepc e29_4)
   have e29_5_29 := (HS.keepc e29_5)
   have e29_6_29 := (HS.keepc e29_6)
   replace H := zbind H; obtain ⟨t30, ht30, H⟩ := H
   go_wp2_with (first | ((with_reducible refine gd 20 rfl ?_); refine ev_cl2 HS (laws_toPlan.calls ht30.out (HS.ro y29_1) m29_1 (HS.ro y29_3) m29_3) Tryz.func82 ?_; clear HS; (try clear F); intro v31 v32 wt30 HS F; obtain ⟨B31, d31, rfl, m31⟩ := HS.form 1 rfl; obtain ⟨B32, d32, rfl, m32⟩ := HS.form 2 rfl; obtain ⟨ad34, B34_1, d34_1, B34_3, d34_3, rfl, e34_0, e34_1, e34_2, e34_3, e34_4, e34_5, e34_6, m34_1, y34_1, m34_3, y34_3⟩ := at_T165 (HS.rd 0 rfl) x24 (of_eq_true c27) (of_eq_true c28)) | ((with_reducible refine gate_store (p := 21) rfl ?_); refine ev_set rfl q165 0 [1, 2] x24 t30 HS (seg := [.int .i64 t30.f0, .slice B31 t30.f1.length d31, .int .i64 t30.f2.f0, .slice B32 t30.f2.f1.length d32, .bool t30.f2.f2, .bool t30.f2.f3, .int .i64 t30.f2.f4]) rfl (by decide) rfl rfl rfl (by first | rfl | exact (Nat.mul_one _).symm) rfl rfl (by kernel_rfl) (by simp [Value.oneCell']) ⟨of_eq_true c27, of_eq_true c28⟩ rfl (fun S hd hh => q165_pack (x := t30) hd (hh 1 (.own (Zd.slice 3 (Zd.int .i64)) t30.f1 [.slice B31 t30.f1.length d31]) rfl) (hh 2 (.own (Zd.slice 3 (Zd.int .i64)) t30.f2.f1 [.slice B32 t30.f2.f1.length d32]) rfl) (by decide)) ?_; clear HS; (try clear F); intro w35 HS; (try simp only [hpn, hpm] at HS)))
   go_roundg k21
   case measure => have := HKk21.out; omega
   case rel => exact ⟨_, _, rfl, H, ⟨by have := HKk21.out; omega⟩, HS.pick [0] (by decide) (by rfl)⟩
/-! ### laws_toKept: function 83 -/
def laws_toKept.f (a0 : S143) : Option (S167) := (some (⟨a0.f0, a0.f1, a0.f2⟩ : S167))
set_option maxHeartbeats 16000000 in
theorem laws_toKept.calls {a0 : S143} {r : S167} {w : World} (h : laws_toKept.f a0 = some r) :
    Calls Tryz.prog 83 #[.agg #[.string a0.f0, .string a0.f1, .int .i64 a0.f2]] w (fun e w' => e = .returned (.agg #[.string r.f0, .string r.f1, .int .i64 r.f2]) ∧ Hp noFP w w' []) := by
 have HS := Hp.start w
 have H := Aside0.mk h
 clear h
 unfold laws_toKept.f at H
 go_enter Tryz.func83, Tryz.ntmps83
 obtain rfl := zsome H
 go_wp2_with (first | ((with_reducible refine gd 1 rfl ?_); refine ev_bx HS ?_; clear HS; (try clear F); intro g1 w1 HS F) | ((with_reducible refine gd 2 rfl ?_); refine ev_bx HS ?_; clear HS; (try clear F); intro g2 w2 HS F) | ((with_reducible refine gd 3 rfl ?_); refine ev_bx HS ?_; clear HS; (try clear F); intro g3 w3 HS F) | ((with_reducible refine gate_store (p := 6) rfl ?_); refine ev_st 2 0 HS (seg := [.string a0.f0]) ?_; clear HS; (try clear F); intro w7 HS F) | ((with_reducible refine gate_store (p := 9) rfl ?_); refine ev_st 2 1 HS (seg := [.string a0.f1]) ?_; clear HS; (try clear F); intro w9 HS F) | ((with_reducible refine gate_store (p := 12) rfl ?_); refine ev_st 2 2 HS (seg := [.int .i64 a0.f2]) ?_; clear HS; (try clear F); intro w11 HS F) | ((with_reducible refine gate_store (p := 2) rfl ?_); refine ev_st 1 0 HS (seg := [.string a0.f0, .string a0.f1, .int .i64 a0.f2]) ?_; clear HS; (try clear F); intro w13 HS F))
 exact bodyPost_ret (results_single rfl (.cell _ _ _ _ _ rfl (HS.boxAt (i := 1) rfl) Tryz.underlying167 rfl (by kernel_rfl) .nil)) rfl ⟨rfl, HS.pick [] (by decide) (by rfl)⟩
/-! ### laws_toKeptS: function 48 -/
def laws_toKeptS.l0 : Nat → (List S167) → Int → (List S143) → Option ((List S167))
  | 0, _, _, _ => none
  | k + 1, l20, x22, a0 => (if x22 < (a0.length : Int) then (if 0 ≤ x22 then (if x22 < (a0.length : Int) then ((laws_toKept.f (rd_T143 a0 x22)).bind fun t28 => (laws_toKeptS.l0 k (l20.set (x22).toNat t28) (wrap64 (x22 + 1)) a0)) else none) else none) else (some l20))
def laws_toKeptS.f (k : Nat) (a0 : (List S143)) : Option ((List S167)) := (if 0 ≤ (a0.length : Int) then (if ((a0.length : Int)).toNat ≤ 7036874417766 then (laws_toKeptS.l0 k (List.replicate a0.length z167) 0 a0) else none) else none)
set_option maxHeartbeats 16000000 in
theorem laws_toKeptS.calls {k : Nat} {a0 : (List S143)} {Ap0 : Option Addr} {np0 cp0 : Nat} {r : (List S167)} {w : World} (h : laws_toKeptS.f k a0 = some r) (gp0 : k143.C w Ap0 np0 a0) (lp0 : np0 ≤ cp0) :
    Calls Tryz.prog 48 #[.slice Ap0 np0 cp0] w (fun e w' => ∃ v0_ : Value, e = .returned (v0_) ∧ Hp noFP w w' [.own (Zd.slice 167 q167) r [v0_]]) := by
 obtain rfl := C_len gp0
 have HS := Hp.start w
 have H := Aside0.mk h
 clear h
 unfold laws_toKeptS.f at H
 go_enter Tryz.func48, Tryz.ntmps48
 replace H := zgo H; obtain ⟨c1, H⟩ := H
 replace H := zgo H; obtain ⟨c2, H⟩ := H
 go_wp2_with (first | ((with_reducible refine gd 7 rfl ?_); refine ev_make rfl q167 z167 HS rfl (a0.length : Int) rfl rfl Tryz.underlying49 info167 rfl (by decide) (by decide) q167_zero (of_eq_true c1) (by have := of_eq_true c2; omega) ?_; clear HS; (try clear F); intro v3 w3 HS; obtain ⟨B3, d3, rfl, m3⟩ := HS.formn a0.length 0 rfl (by first | rfl | simp); (try simp only [hpn, hpm] at HS)))
 go_loopg [4] k (fun kq v_4 w' => ∃ (l20 : List S167) (x22 : Int), v_4 = .int .i64 x22 ∧ Aside0 (laws_toKeptS.l0 kq l20 x22 a0 = some r) ∧ Aside0 (kq ≤ k) ∧ Hp noFP w w' [.own (Zd.slice 167 q167) l20 [.slice B3 a0.length d3]])
 case atStart => exact ⟨_, _, rfl, H, ⟨Nat.le_refl _⟩, HS⟩
 case round =>
  clear HS H; (try clear F)
  obtain ⟨l20, x22, rfl, H, HKk19, HS⟩ := hrel
  cases gk with
  | zero => exact absurd H.out (by simp [laws_toKeptS.l0])
  | succ k19 =>
   simp only [laws_toKeptS.l0] at H
   replace H := znif H; rcases H with ⟨c24, H⟩ | ⟨c24, H⟩
   case inl =>
    obtain rfl := zsome H
    go_wp2
    exact bodyPost_ret (results_single rfl (.tmp .nil)) rfl ⟨_, rfl, HS.pick [0] (by decide) (by rfl)⟩
   replace H := zgo H; obtain ⟨c25, H⟩ := H
   replace H := zgo H; obtain ⟨c26, H⟩ := H
   obtain ⟨ad27, rfl, e27_0, e27_1, e27_2⟩ := at_T143 gp0 x22 (of_eq_true c25) (of_eq_true c26)
   have e27_0_27 := (HS.keepc e27_0)
   have e27_1_27 := (HS.keepc e27_1)
   have e27_2_27 := (HS.keepc e27_2)
   replace H := zbind H; obtain ⟨t28, ht28, H⟩ := H
   go_wp2_with (first | ((with_reducible refine gd 20 rfl ?_); refine ev_cl HS (laws_toKept.calls ht28.out) Tryz.func83 ?_; clear HS; (try clear F); intro wt28 HS F; obtain ⟨ad30, rfl, e30_0, e30_1, e30_2⟩ := at_T167 (HS.rd 0 rfl) x22 (of_eq_true c25) (of_eq_true c26)) | ((with_reducible refine gate_store (p := 21) rfl ?_); refine ev_set rfl q167 0 [] x22 t28 HS (seg := [.string t28.f0, .string t28.f1, .int .i64 t28.f2]) rfl (by decide) rfl rfl rfl (by first | rfl | exact (Nat.mul_one _).symm) rfl rfl (by kernel_rfl) (by simp [Value.oneCell']) ⟨of_eq_true c25, of_eq_true c26⟩ rfl (made_flat (fun _ => q167_flat _ _ _)) ?_; clear HS; (try clear F); intro w31 HS; (try simp only [hpn, hpm] at HS)))
   go_roundg k19
   case measure => have := HKk19.out; omega
   case rel => exact ⟨_, _, rfl, H, ⟨by have := HKk19.out; omega⟩, HS.pick [0] (by decide) (by rfl)⟩
/-! ### laws_toServer: function 18 -/
def laws_toServer.f (k : Nat) (a0 : S30) : Option (S51) := ((laws_toStore.f k a0.f0).bind fun t7 => ((laws_toPlanS.f k a0.f1).bind fun t14 => ((laws_toKeptS.f k a0.f5).bind fun t25 => (some (⟨(⟨t7.f0, t7.f1, t7.f2⟩ : S47), t14, a0.f2, a0.f3, a0.f4, t25⟩ : S51)))))
set_option maxHeartbeats 16000000 in
theorem laws_toServer.calls {k : Nat} {a0 : S30} {Ap0 : Option Addr} {np0 cp0 : Nat} {Ap1 : Option Addr} {np1 cp1 : Nat} {Ap2 : Option Addr} {np2 cp2 : Nat} {Ap3 : Option Addr} {np3 cp3 : Nat} {Ap4 : Option Addr} {np4 cp4 : Nat} {r : S51} {w : World} (h : laws_toServer.f k a0 = some r) (gp0 : k99.C w Ap0 np0 a0.f0.f0) (lp0 : np0 ≤ cp0) (gp1 : k187.C w Ap1 np1 a0.f0.f1) (lp1 : np1 ≤ cp1) (gp2 : k190.C w Ap2 np2 a0.f0.f2) (lp2 : np2 ≤ cp2) (gp3 : k140.C w Ap3 np3 a0.f1) (lp3 : np3 ≤ cp3) (gp4 : k143.C w Ap4 np4 a0.f5) (lp4 : np4 ≤ cp4) :
    Calls Tryz.prog 18 #[.agg #[.slice Ap0 np0 cp0, .slice Ap1 np1 cp1, .slice Ap2 np2 cp2, .slice Ap3 np3 cp3, .int .i64 a0.f2, .int .i64 a0.f3, .int .i64 a0.f4, .slice Ap4 np4 cp4]] w (fun e w' => ∃ v0_ v1_ v2_ v3_ v4_ : Value, e = .returned (.agg #[v0_, v1_, v2_, v3_, .int .i64 r.f2, .int .i64 r.f3, .int .i64 r.f4, v4_]) ∧ Hp noFP w w' [.own (Zd.slice 118 q118) r.f0.f0 [v0_], .own (Zd.slice 198 q198) r.f0.f1 [v1_], .own (Zd.slice 200 q200) r.f0.f2 [v2_], .own (Zd.slice 165 q165) r.f1 [v3_], .own (Zd.slice 167 q167) r.f5 [v4_]]) := by
 obtain rfl := C_len gp0
 obtain rfl := C_len gp1
 obtain rfl := C_len gp2
 obtain rfl := C_len gp3
 obtain rfl := C_len gp4
 have HS := Hp.start w
 have H := Aside0.mk h
 clear h
 unfold laws_toServer.f at H
 go_enter Tryz.func18, Tryz.ntmps18
 replace H := zbind H; obtain ⟨t7, ht7, H⟩ := H
 replace H := zbind H; obtain ⟨t14, ht14, H⟩ := H
 replace H := zbind H; obtain ⟨t25, ht25, H⟩ := H
 obtain rfl := zsome H
 go_wp2_with (first | ((with_reducible refine gd 1 rfl ?_); refine ev_bx HS ?_; clear HS; (try clear F); intro g1 w1 HS F) | ((with_reducible refine gd 2 rfl ?_); refine ev_bx HS ?_; clear HS; (try clear F); intro g2 w2 HS F) | ((with_reducible refine gd 3 rfl ?_); refine ev_bx HS ?_; clear HS; (try clear F); intro g3 w3 HS F) | ((with_reducible refine gd 6 rfl ?_); refine ev_cl3 HS (laws_toStore.calls ht7.out (HS.ro gp0) lp0 (HS.ro gp1) lp1 (HS.ro gp2) lp2) Tryz.func46 ?_; clear HS; (try clear F); intro v8 v9 v10 wt7 HS F; obtain ⟨B8, d8, rfl, m8⟩ := HS.form 3 rfl; obtain ⟨B9, d9, rfl, m9⟩ := HS.form 4 rfl; obtain ⟨B10, d10, rfl, m10⟩ := HS.form 5 rfl) | ((with_reducible refine gate_store (p := 7) rfl ?_); refine ev_st 2 0 HS (seg := [.slice B8 t7.f0.length d8, .slice B9 t7.f1.length d9, .slice B10 t7.f2.length d10]) ?_; clear HS; (try clear F); intro w12 HS F) | ((with_reducible refine gd 10 rfl ?_); refine ev_cl1 HS (laws_toPlanS.calls ht14.out (HS.ro gp3) lp3) Tryz.func47 ?_; clear HS; (try clear F); intro v15 wt14 HS F; obtain ⟨B15, d15, rfl, m15⟩ := HS.form 6 rfl) | ((with_reducible refine gate_store (p := 11) rfl ?_); refine ev_st 2 3 HS (seg := [.slice B15 t14.length d15]) ?_; clear HS; (try clear F); intro w17 HS F) | ((with_reducible refine gate_store (p := 14) rfl ?_); refine ev_st 2 4 HS (seg := [.int .i64 a0.f2]) ?_; clear HS; (try clear F); intro w19 HS F) | ((with_reducible refine gate_store (p := 17) rfl ?_); refine ev_st 2 5 HS (seg := [.int .i64 a0.f3]) ?_; clear HS; (try clear F); intro w21 HS F) | ((with_reducible refine gate_store (p := 20) rfl ?_); refine ev_st 2 6 HS (seg := [.int .i64 a0.f4]) ?_; clear HS; (try clear F); intro w23 HS F) | ((with_reducible refine gd 23 rfl ?_); refine ev_cl1 HS (laws_toKeptS.calls ht25.out (HS.ro gp4) lp4) Tryz.func48 ?_; clear HS; (try clear F); intro v26 wt25 HS F; obtain ⟨B26, d26, rfl, m26⟩ := HS.form 7 rfl) | ((with_reducible refine gate_store (p := 24) rfl ?_); refine ev_st 2 7 HS (seg := [.slice B26 t25.length d26]) ?_; clear HS; (try clear F); intro w28 HS F) | ((with_reducible refine gate_store (p := 2) rfl ?_); refine ev_st 1 0 HS (seg := [.slice B8 t7.f0.length d8, .slice B9 t7.f1.length d9, .slice B10 t7.f2.length d10, .slice B15 t14.length d15, .int .i64 a0.f2, .int .i64 a0.f3, .int .i64 a0.f4, .slice B26 t25.length d26]) ?_; clear HS; (try clear F); intro w30 HS F))
 exact bodyPost_ret (results_single rfl (.cell _ _ _ _ _ rfl (HS.boxAt (i := 1) rfl) Tryz.underlying51 rfl (by kernel_rfl) .nil)) rfl ⟨_, _, _, _, _, rfl, HS.pick [3, 4, 5, 6, 7] (by decide) (by rfl)⟩
/-! ### laws_toWait: function 84 -/
def laws_toWait.f (a0 : S146) : Option (S169) := (some (⟨a0.f0, a0.f1, a0.f2, a0.f3⟩ : S169))
set_option maxHeartbeats 16000000 in
theorem laws_toWait.calls {a0 : S146} {r : S169} {w : World} (h : laws_toWait.f a0 = some r) :
    Calls Tryz.prog 84 #[.agg #[.int .i64 a0.f0, .int .i64 a0.f1, .string a0.f2, .int .i64 a0.f3]] w (fun e w' => e = .returned (.agg #[.int .i64 r.f0, .int .i64 r.f1, .string r.f2, .int .i64 r.f3]) ∧ Hp noFP w w' []) := by
 have HS := Hp.start w
 have H := Aside0.mk h
 clear h
 unfold laws_toWait.f at H
 go_enter Tryz.func84, Tryz.ntmps84
 obtain rfl := zsome H
 go_wp2_with (first | ((with_reducible refine gd 1 rfl ?_); refine ev_bx HS ?_; clear HS; (try clear F); intro g1 w1 HS F) | ((with_reducible refine gd 2 rfl ?_); refine ev_bx HS ?_; clear HS; (try clear F); intro g2 w2 HS F) | ((with_reducible refine gd 3 rfl ?_); refine ev_bx HS ?_; clear HS; (try clear F); intro g3 w3 HS F) | ((with_reducible refine gate_store (p := 6) rfl ?_); refine ev_st 2 0 HS (seg := [.int .i64 a0.f0]) ?_; clear HS; (try clear F); intro w7 HS F) | ((with_reducible refine gate_store (p := 9) rfl ?_); refine ev_st 2 1 HS (seg := [.int .i64 a0.f1]) ?_; clear HS; (try clear F); intro w9 HS F) | ((with_reducible refine gate_store (p := 12) rfl ?_); refine ev_st 2 2 HS (seg := [.string a0.f2]) ?_; clear HS; (try clear F); intro w11 HS F) | ((with_reducible refine gate_store (p := 15) rfl ?_); refine ev_st 2 3 HS (seg := [.int .i64 a0.f3]) ?_; clear HS; (try clear F); intro w13 HS F) | ((with_reducible refine gate_store (p := 2) rfl ?_); refine ev_st 1 0 HS (seg := [.int .i64 a0.f0, .int .i64 a0.f1, .string a0.f2, .int .i64 a0.f3]) ?_; clear HS; (try clear F); intro w15 HS F))
 exact bodyPost_ret (results_single rfl (.cell _ _ _ _ _ rfl (HS.boxAt (i := 1) rfl) Tryz.underlying169 rfl (by kernel_rfl) .nil)) rfl ⟨rfl, HS.pick [] (by decide) (by rfl)⟩
/-! ### laws_toWaitS: function 49 -/
def laws_toWaitS.l0 : Nat → (List S169) → Int → (List S146) → Option ((List S169))
  | 0, _, _, _ => none
  | k + 1, l20, x22, a0 => (if x22 < (a0.length : Int) then (if 0 ≤ x22 then (if x22 < (a0.length : Int) then ((laws_toWait.f (rd_T146 a0 x22)).bind fun t28 => (laws_toWaitS.l0 k (l20.set (x22).toNat t28) (wrap64 (x22 + 1)) a0)) else none) else none) else (some l20))
def laws_toWaitS.f (k : Nat) (a0 : (List S146)) : Option ((List S169)) := (if 0 ≤ (a0.length : Int) then (if ((a0.length : Int)).toNat ≤ 7036874417766 then (laws_toWaitS.l0 k (List.replicate a0.length z169) 0 a0) else none) else none)
set_option maxHeartbeats 16000000 in
theorem laws_toWaitS.calls {k : Nat} {a0 : (List S146)} {Ap0 : Option Addr} {np0 cp0 : Nat} {r : (List S169)} {w : World} (h : laws_toWaitS.f k a0 = some r) (gp0 : k146.C w Ap0 np0 a0) (lp0 : np0 ≤ cp0) :
    Calls Tryz.prog 49 #[.slice Ap0 np0 cp0] w (fun e w' => ∃ v0_ : Value, e = .returned (v0_) ∧ Hp noFP w w' [.own (Zd.slice 169 q169) r [v0_]]) := by
 obtain rfl := C_len gp0
 have HS := Hp.start w
 have H := Aside0.mk h
 clear h
 unfold laws_toWaitS.f at H
 go_enter Tryz.func49, Tryz.ntmps49
 replace H := zgo H; obtain ⟨c1, H⟩ := H
 replace H := zgo H; obtain ⟨c2, H⟩ := H
 go_wp2_with (first | ((with_reducible refine gd 7 rfl ?_); refine ev_make rfl q169 z169 HS rfl (a0.length : Int) rfl rfl Tryz.underlying52 info169 rfl (by decide) (by decide) q169_zero (of_eq_true c1) (by have := of_eq_true c2; omega) ?_; clear HS; (try clear F); intro v3 w3 HS; obtain ⟨B3, d3, rfl, m3⟩ := HS.formn a0.length 0 rfl (by first | rfl | simp); (try simp only [hpn, hpm] at HS)))
 go_loopg [4] k (fun kq v_4 w' => ∃ (l20 : List S169) (x22 : Int), v_4 = .int .i64 x22 ∧ Aside0 (laws_toWaitS.l0 kq l20 x22 a0 = some r) ∧ Aside0 (kq ≤ k) ∧ Hp noFP w w' [.own (Zd.slice 169 q169) l20 [.slice B3 a0.length d3]])
 case atStart => exact ⟨_, _, rfl, H, ⟨Nat.le_refl _⟩, HS⟩
 case round =>
  clear HS H; (try clear F)
  obtain ⟨l20, x22, rfl, H, HKk19, HS⟩ := hrel
  cases gk with
  | zero => exact absurd H.out (by simp [laws_toWaitS.l0])
  | succ k19 =>
   simp only [laws_toWaitS.l0] at H
   replace H := znif H; rcases H with ⟨c24, H⟩ | ⟨c24, H⟩
   case inl =>
    obtain rfl := zsome H
    go_wp2
    exact bodyPost_ret (results_single rfl (.tmp .nil)) rfl ⟨_, rfl, HS.pick [0] (by decide) (by rfl)⟩
   replace H := zgo H; obtain ⟨c25, H⟩ := H
   replace H := zgo H; obtain ⟨c26, H⟩ := H
   obtain ⟨ad27, rfl, e27_0, e27_1, e27_2, e27_3⟩ := at_T146 gp0 x22 (of_eq_true c25) (of_eq_true c26)
   have e27_0_27 := (HS.keepc e27_0)
   have e27_1_27 := (HS.keepc e27_1)
   have e27_2_27 := (HS.keepc e27_2)
   have e27_3_27 := (HS.keepc e27_3)
   replace H := zbind H; obtain ⟨t28, ht28, H⟩ := H
   go_wp2_with (first | ((with_reducible refine gd 20 rfl ?_); refine ev_cl HS (laws_toWait.calls ht28.out) Tryz.func84 ?_; clear HS; (try clear F); intro wt28 HS F; obtain ⟨ad30, rfl, e30_0, e30_1, e30_2, e30_3⟩ := at_T169 (HS.rd 0 rfl) x22 (of_eq_true c25) (of_eq_true c26)) | ((with_reducible refine gate_store (p := 21) rfl ?_); refine ev_set rfl q169 0 [] x22 t28 HS (seg := [.int .i64 t28.f0, .int .i64 t28.f1, .string t28.f2, .int .i64 t28.f3]) rfl (by decide) rfl rfl rfl (by first | rfl | exact (Nat.mul_one _).symm) rfl rfl (by kernel_rfl) (by simp [Value.oneCell']) ⟨of_eq_true c25, of_eq_true c26⟩ rfl (made_flat (fun _ => q169_flat _ _ _)) ?_; clear HS; (try clear F); intro w31 HS; (try simp only [hpn, hpm] at HS)))
   go_roundg k19
   case measure => have := HKk19.out; omega
   case rel => exact ⟨_, _, rfl, H, ⟨by have := HKk19.out; omega⟩, HS.pick [0] (by decide) (by rfl)⟩
/-! ### laws_toAnswer: function 133 -/
def laws_toAnswer.f (k : Nat) (a0 : S220) : Option (S154) := ((laws_toStringS.f k a0.f2).bind fun t11 => ((laws_toStringS.f k a0.f3).bind fun t16 => (some (⟨a0.f0, a0.f1, t11, t16⟩ : S154))))
set_option maxHeartbeats 16000000 in
theorem laws_toAnswer.calls {k : Nat} {a0 : S220} {Ap0 : Option Addr} {np0 cp0 : Nat} {Ap1 : Option Addr} {np1 cp1 : Nat} {r : S154} {w : World} (h : laws_toAnswer.f k a0 = some r) (gp0 : Kd.string.C w Ap0 np0 a0.f2) (lp0 : np0 ≤ cp0) (gp1 : Kd.string.C w Ap1 np1 a0.f3) (lp1 : np1 ≤ cp1) :
    Calls Tryz.prog 133 #[.agg #[.int .i64 a0.f0, .int .i64 a0.f1, .slice Ap0 np0 cp0, .slice Ap1 np1 cp1]] w (fun e w' => ∃ v0_ v1_ : Value, e = .returned (.agg #[.int .i64 r.f0, .int .i64 r.f1, v0_, v1_]) ∧ Hp noFP w w' [.own (Zd.slice 9 Zd.string) r.f2 [v0_], .own (Zd.slice 9 Zd.string) r.f3 [v1_]]) := by
 obtain rfl := C_len gp0
 obtain rfl := C_len gp1
 have HS := Hp.start w
 have H := Aside0.mk h
 clear h
 unfold laws_toAnswer.f at H
 go_enter Tryz.func133, Tryz.ntmps133
 replace H := zbind H; obtain ⟨t11, ht11, H⟩ := H
 replace H := zbind H; obtain ⟨t16, ht16, H⟩ := H
 obtain rfl := zsome H
 go_wp2_with (first | ((with_reducible refine gd 1 rfl ?_); refine ev_bx HS ?_; clear HS; (try clear F); intro g1 w1 HS F) | ((with_reducible refine gd 2 rfl ?_); refine ev_bx HS ?_; clear HS; (try clear F); intro g2 w2 HS F) | ((with_reducible refine gd 3 rfl ?_); refine ev_bx HS ?_; clear HS; (try clear F); intro g3 w3 HS F) | ((with_reducible refine gate_store (p := 6) rfl ?_); refine ev_st 2 0 HS (seg := [.int .i64 a0.f0]) ?_; clear HS; (try clear F); intro w7 HS F) | ((with_reducible refine gate_store (p := 9) rfl ?_); refine ev_st 2 1 HS (seg := [.int .i64 a0.f1]) ?_; clear HS; (try clear F); intro w9 HS F) | ((with_reducible refine gd 12 rfl ?_); refine ev_cl1 HS (laws_toStringS.calls ht11.out (HS.ro gp0) lp0) Tryz.func24 ?_; clear HS; (try clear F); intro v12 wt11 HS F; obtain ⟨B12, d12, rfl, m12⟩ := HS.form 3 rfl) | ((with_reducible refine gate_store (p := 13) rfl ?_); refine ev_st 2 2 HS (seg := [.slice B12 t11.length d12]) ?_; clear HS; (try clear F); intro w14 HS F) | ((with_reducible refine gd 16 rfl ?_); refine ev_cl1 HS (laws_toStringS.calls ht16.out (HS.ro gp1) lp1) Tryz.func24 ?_; clear HS; (try clear F); intro v17 wt16 HS F; obtain ⟨B17, d17, rfl, m17⟩ := HS.form 4 rfl) | ((with_reducible refine gate_store (p := 17) rfl ?_); refine ev_st 2 3 HS (seg := [.slice B17 t16.length d17]) ?_; clear HS; (try clear F); intro w19 HS F) | ((with_reducible refine gate_store (p := 2) rfl ?_); refine ev_st 1 0 HS (seg := [.int .i64 a0.f0, .int .i64 a0.f1, .slice B12 t11.length d12, .slice B17 t16.length d17]) ?_; clear HS; (try clear F); intro w21 HS F))
 exact bodyPost_ret (results_single rfl (.cell _ _ _ _ _ rfl (HS.boxAt (i := 1) rfl) Tryz.underlying154 rfl (by kernel_rfl) .nil)) rfl ⟨_, _, rfl, HS.pick [3, 4] (by decide) (by rfl)⟩
/-! ### laws_toAnswerS: function 125 -/
def laws_toAnswerS.l0 : Nat → (List S154) → Int → (List S220) → Option ((List S154))
  | 0, _, _, _ => none
  | k + 1, l22, x24, a0 => (if x24 < (a0.length : Int) then (if 0 ≤ x24 then (if x24 < (a0.length : Int) then ((laws_toAnswer.f k (rd_T220 a0 x24)).bind fun t30 => (laws_toAnswerS.l0 k (l22.set (x24).toNat t30) (wrap64 (x24 + 1)) a0)) else none) else none) else (some l22))
def laws_toAnswerS.f (k : Nat) (a0 : (List S220)) : Option ((List S154)) := (if 0 ≤ (a0.length : Int) then (if ((a0.length : Int)).toNat ≤ 4398046511104 then (laws_toAnswerS.l0 k (List.replicate a0.length z154) 0 a0) else none) else none)
set_option maxHeartbeats 16000000 in
theorem laws_toAnswerS.calls {k : Nat} {a0 : (List S220)} {Ap0 : Option Addr} {np0 cp0 : Nat} {r : (List S154)} {w : World} (h : laws_toAnswerS.f k a0 = some r) (gp0 : k220.C w Ap0 np0 a0) (lp0 : np0 ≤ cp0) :
    Calls Tryz.prog 125 #[.slice Ap0 np0 cp0] w (fun e w' => ∃ v0_ : Value, e = .returned (v0_) ∧ Hp noFP w w' [.own (Zd.slice 154 q154) r [v0_]]) := by
 obtain rfl := C_len gp0
 have HS := Hp.start w
 have H := Aside0.mk h
 clear h
 unfold laws_toAnswerS.f at H
 go_enter Tryz.func125, Tryz.ntmps125
 replace H := zgo H; obtain ⟨c1, H⟩ := H
 replace H := zgo H; obtain ⟨c2, H⟩ := H
 go_wp2_with (first | ((with_reducible refine gd 7 rfl ?_); refine ev_make rfl q154 z154 HS rfl (a0.length : Int) rfl rfl Tryz.underlying72 info154 rfl (by decide) (by decide) q154_zero (of_eq_true c1) (by have := of_eq_true c2; omega) ?_; clear HS; (try clear F); intro v3 w3 HS; obtain ⟨B3, d3, rfl, m3⟩ := HS.formn a0.length 0 rfl (by first | rfl | simp); (try simp only [hpn, hpm] at HS)))
 go_loopg [4] k (fun kq v_4 w' => ∃ (l22 : List S154) (x24 : Int), v_4 = .int .i64 x24 ∧ Aside0 (laws_toAnswerS.l0 kq l22 x24 a0 = some r) ∧ Aside0 (kq ≤ k) ∧ Hp noFP w w' [.own (Zd.slice 154 q154) l22 [.slice B3 a0.length d3]])
 case atStart => exact ⟨_, _, rfl, H, ⟨Nat.le_refl _⟩, HS⟩
 case round =>
  clear HS H; (try clear F)
  obtain ⟨l22, x24, rfl, H, HKk21, HS⟩ := hrel
  cases gk with
  | zero => exact absurd H.out (by simp [laws_toAnswerS.l0])
  | succ k21 =>
   simp only [laws_toAnswerS.l0] at H
   replace H := znif H; rcases H with ⟨c26, H⟩ | ⟨c26, H⟩
   case inl =>
    obtain rfl := zsome H
    go_wp2
    exact bodyPost_ret (results_single rfl (.tmp .nil)) rfl ⟨_, rfl, HS.pick [0] (by decide) (by rfl)⟩
   replace H := zgo H; obtain ⟨c27, H⟩ := H
   replace H := zgo H; obtain ⟨c28, H⟩ := H
   obtain ⟨ad29, B29_2, d29_2, B29_3, d29_3, rfl, e29_0, e29_1, e29_2, e29_3, m29_2, y29_2, m29_3, y29_3⟩ := at_T220 gp0 x24 (of_eq_true c27) (of_eq_true c28)
   have e29_0_29 := (HS.keepc e29_0)
   have e29_1_29 := (HS.keepc e29_1)
   have e29_2_29 := (HS.keepc e29_2)
   have e29_3_29 := (HS.keepc e29_3)
   replace H := zbind H; obtain ⟨t30, ht30, H⟩ := H
   go_wp2_with (first | ((with_reducible refine gd 20 rfl ?_); refine ev_cl2 HS (laws_toAnswer.calls ht30.out (HS.ro y29_2) m29_2 (HS.ro y29_3) m29_3) Tryz.func133 ?_; clear HS; (try clear F); intro v31 v32 wt30 HS F; obtain ⟨B31, d31, rfl, m31⟩ := HS.form 1 rfl; obtain ⟨B32, d32, rfl, m32⟩ := HS.form 2 rfl; obtain ⟨ad34, B34_2, d34_2, B34_3, d34_3, rfl, e34_0, e34_1, e34_2, e34_3, m34_2, y34_2, m34_3, y34_3⟩ := at_T154 (HS.rd 0 rfl) x24 (of_eq_true c27) (of_eq_true c28)) | ((with_reducible refine gate_store (p := 21) rfl ?_); refine ev_set rfl q154 0 [1, 2] x24 t30 HS (seg := [.int .i64 t30.f0, .int .i64 t30.f1, .slice B31 t30.f2.length d31, .slice B32 t30.f3.length d32]) rfl (by decide) rfl rfl rfl (by first | rfl | exact (Nat.mul_one _).symm) rfl rfl (by kernel_rfl) (by simp [Value.oneCell']) ⟨of_eq_true c27, of_eq_true c28⟩ rfl (fun S hd hh => q154_pack (x := t30) hd (hh 1 (.own (Zd.slice 9 Zd.string) t30.f2 [.slice B31 t30.f2.length d31]) rfl) (hh 2 (.own (Zd.slice 9 Zd.string) t30.f3 [.slice B32 t30.f3.length d32]) rfl) (by decide)) ?_; clear HS; (try clear F); intro w35 HS; (try simp only [hpn, hpm] at HS)))
   go_roundg k21
   case measure => have := HKk21.out; omega
   case rel => exact ⟨_, _, rfl, H, ⟨by have := HKk21.out; omega⟩, HS.pick [0] (by decide) (by rfl)⟩
/-! ### laws_toReply: function 112 -/
def laws_toReply.f (k : Nat) (a0 : S150) : Option (S74) := ((laws_toAnswerS.f k a0.f6).bind fun t19 => (some (⟨a0.f0, a0.f1, a0.f2, a0.f3, a0.f4, a0.f5, t19, a0.f7⟩ : S74)))
set_option maxHeartbeats 16000000 in
theorem laws_toReply.calls {k : Nat} {a0 : S150} {Ap0 : Option Addr} {np0 cp0 : Nat} {r : S74} {w : World} (h : laws_toReply.f k a0 = some r) (gp0 : k220.C w Ap0 np0 a0.f6) (lp0 : np0 ≤ cp0) :
    Calls Tryz.prog 112 #[.agg #[.string a0.f0, .int .i64 a0.f1, .int .i64 a0.f2, .int .i64 a0.f3, .int .i64 a0.f4, .int .i64 a0.f5, .slice Ap0 np0 cp0, .string a0.f7]] w (fun e w' => ∃ v0_ : Value, e = .returned (.agg #[.string r.f0, .int .i64 r.f1, .int .i64 r.f2, .int .i64 r.f3, .int .i64 r.f4, .int .i64 r.f5, v0_, .string r.f7]) ∧ Hp noFP w w' [.own (Zd.slice 154 q154) r.f6 [v0_]]) := by
 obtain rfl := C_len gp0
 have HS := Hp.start w
 have H := Aside0.mk h
 clear h
 unfold laws_toReply.f at H
 go_enter Tryz.func112, Tryz.ntmps112
 replace H := zbind H; obtain ⟨t19, ht19, H⟩ := H
 obtain rfl := zsome H
 go_wp2_with (first | ((with_reducible refine gd 1 rfl ?_); refine ev_bx HS ?_; clear HS; (try clear F); intro g1 w1 HS F) | ((with_reducible refine gd 2 rfl ?_); refine ev_bx HS ?_; clear HS; (try clear F); intro g2 w2 HS F) | ((with_reducible refine gd 3 rfl ?_); refine ev_bx HS ?_; clear HS; (try clear F); intro g3 w3 HS F) | ((with_reducible refine gate_store (p := 6) rfl ?_); refine ev_st 2 0 HS (seg := [.string a0.f0]) ?_; clear HS; (try clear F); intro w7 HS F) | ((with_reducible refine gate_store (p := 9) rfl ?_); refine ev_st 2 1 HS (seg := [.int .i64 a0.f1]) ?_; clear HS; (try clear F); intro w9 HS F) | ((with_reducible refine gate_store (p := 12) rfl ?_); refine ev_st 2 2 HS (seg := [.int .i64 a0.f2]) ?_; clear HS; (try clear F); intro w11 HS F) | ((with_reducible refine gate_store (p := 15) rfl ?_); refine ev_st 2 3 HS (seg := [.int .i64 a0.f3]) ?_; clear HS; (try clear F); intro w13 HS F) | ((with_reducible refine gate_store (p := 18) rfl ?_); refine ev_st 2 4 HS (seg := [.int .i64 a0.f4]) ?_; clear HS; (try clear F); intro w15 HS F) | ((with_reducible refine gate_store (p := 21) rfl ?_); refine ev_st 2 5 HS (seg := [.int .i64 a0.f5]) ?_; clear HS; (try clear F); intro w17 HS F) | ((with_reducible refine gd 24 rfl ?_); refine ev_cl1 HS (laws_toAnswerS.calls ht19.out (HS.ro gp0) lp0) Tryz.func125 ?_; clear HS; (try clear F); intro v20 wt19 HS F; obtain ⟨B20, d20, rfl, m20⟩ := HS.form 3 rfl) | ((with_reducible refine gate_store (p := 25) rfl ?_); refine ev_st 2 6 HS (seg := [.slice B20 t19.length d20]) ?_; clear HS; (try clear F); intro w22 HS F) | ((with_reducible refine gate_store (p := 28) rfl ?_); refine ev_st 2 7 HS (seg := [.string a0.f7]) ?_; clear HS; (try clear F); intro w24 HS F) | ((with_reducible refine gate_store (p := 2) rfl ?_); refine ev_st 1 0 HS (seg := [.string a0.f0, .int .i64 a0.f1, .int .i64 a0.f2, .int .i64 a0.f3, .int .i64 a0.f4, .int .i64 a0.f5, .slice B20 t19.length d20, .string a0.f7]) ?_; clear HS; (try clear F); intro w26 HS F))
 exact bodyPost_ret (results_single rfl (.cell _ _ _ _ _ rfl (HS.boxAt (i := 1) rfl) Tryz.underlying74 rfl (by kernel_rfl) .nil)) rfl ⟨_, rfl, HS.pick [3] (by decide) (by rfl)⟩
/-! ### laws_toGot: function 85 -/
def laws_toGot.f (k : Nat) (a0 : S152) : Option (S76) := ((laws_toReply.f k a0.f1).bind fun t9 => (some (⟨a0.f0, (⟨t9.f0, t9.f1, t9.f2, t9.f3, t9.f4, t9.f5, t9.f6, t9.f7⟩ : S74)⟩ : S76)))
set_option maxHeartbeats 16000000 in
theorem laws_toGot.calls {k : Nat} {a0 : S152} {Ap0 : Option Addr} {np0 cp0 : Nat} {r : S76} {w : World} (h : laws_toGot.f k a0 = some r) (gp0 : k220.C w Ap0 np0 a0.f1.f6) (lp0 : np0 ≤ cp0) :
    Calls Tryz.prog 85 #[.agg #[.int .i64 a0.f0, .string a0.f1.f0, .int .i64 a0.f1.f1, .int .i64 a0.f1.f2, .int .i64 a0.f1.f3, .int .i64 a0.f1.f4, .int .i64 a0.f1.f5, .slice Ap0 np0 cp0, .string a0.f1.f7]] w (fun e w' => ∃ v0_ : Value, e = .returned (.agg #[.int .i64 r.f0, .string r.f1.f0, .int .i64 r.f1.f1, .int .i64 r.f1.f2, .int .i64 r.f1.f3, .int .i64 r.f1.f4, .int .i64 r.f1.f5, v0_, .string r.f1.f7]) ∧ Hp noFP w w' [.own (Zd.slice 154 q154) r.f1.f6 [v0_]]) := by
 obtain rfl := C_len gp0
 have HS := Hp.start w
 have H := Aside0.mk h
 clear h
 unfold laws_toGot.f at H
 go_enter Tryz.func85, Tryz.ntmps85
 replace H := zbind H; obtain ⟨t9, ht9, H⟩ := H
 obtain rfl := zsome H
 go_wp2_with (first | ((with_reducible refine gd 1 rfl ?_); refine ev_bx HS ?_; clear HS; (try clear F); intro g1 w1 HS F) | ((with_reducible refine gd 2 rfl ?_); refine ev_bx HS ?_; clear HS; (try clear F); intro g2 w2 HS F) | ((with_reducible refine gd 3 rfl ?_); refine ev_bx HS ?_; clear HS; (try clear F); intro g3 w3 HS F) | ((with_reducible refine gate_store (p := 6) rfl ?_); refine ev_st 2 0 HS (seg := [.int .i64 a0.f0]) ?_; clear HS; (try clear F); intro w7 HS F) | ((with_reducible refine gd 9 rfl ?_); refine ev_cl1 HS (laws_toReply.calls ht9.out (HS.ro gp0) lp0) Tryz.func112 ?_; clear HS; (try clear F); intro v10 wt9 HS F; obtain ⟨B10, d10, rfl, m10⟩ := HS.form 3 rfl) | ((with_reducible refine gate_store (p := 10) rfl ?_); refine ev_st 2 1 HS (seg := [.string t9.f0, .int .i64 t9.f1, .int .i64 t9.f2, .int .i64 t9.f3, .int .i64 t9.f4, .int .i64 t9.f5, .slice B10 t9.f6.length d10, .string t9.f7]) ?_; clear HS; (try clear F); intro w12 HS F) | ((with_reducible refine gate_store (p := 2) rfl ?_); refine ev_st 1 0 HS (seg := [.int .i64 a0.f0, .string t9.f0, .int .i64 t9.f1, .int .i64 t9.f2, .int .i64 t9.f3, .int .i64 t9.f4, .int .i64 t9.f5, .slice B10 t9.f6.length d10, .string t9.f7]) ?_; clear HS; (try clear F); intro w14 HS F))
 exact bodyPost_ret (results_single rfl (.cell _ _ _ _ _ rfl (HS.boxAt (i := 1) rfl) Tryz.underlying76 rfl (by kernel_rfl) .nil)) rfl ⟨_, rfl, HS.pick [3] (by decide) (by rfl)⟩
/-! ### laws_toGotS: function 50 -/
def laws_toGotS.l0 : Nat → (List S76) → Int → (List S152) → Option ((List S76))
  | 0, _, _, _ => none
  | k + 1, l21, x23, a0 => (if x23 < (a0.length : Int) then (if 0 ≤ x23 then (if x23 < (a0.length : Int) then ((laws_toGot.f k (rd_T152 a0 x23)).bind fun t29 => (laws_toGotS.l0 k (l21.set (x23).toNat t29) (wrap64 (x23 + 1)) a0)) else none) else none) else (some l21))
def laws_toGotS.f (k : Nat) (a0 : (List S152)) : Option ((List S76)) := (if 0 ≤ (a0.length : Int) then (if ((a0.length : Int)).toNat ≤ 2706490160679 then (laws_toGotS.l0 k (List.replicate a0.length z76) 0 a0) else none) else none)
set_option maxHeartbeats 16000000 in
theorem laws_toGotS.calls {k : Nat} {a0 : (List S152)} {Ap0 : Option Addr} {np0 cp0 : Nat} {r : (List S76)} {w : World} (h : laws_toGotS.f k a0 = some r) (gp0 : k152.C w Ap0 np0 a0) (lp0 : np0 ≤ cp0) :
    Calls Tryz.prog 50 #[.slice Ap0 np0 cp0] w (fun e w' => ∃ v0_ : Value, e = .returned (v0_) ∧ Hp noFP w w' [.own (Zd.slice 76 q76) r [v0_]]) := by
 obtain rfl := C_len gp0
 have HS := Hp.start w
 have H := Aside0.mk h
 clear h
 unfold laws_toGotS.f at H
 go_enter Tryz.func50, Tryz.ntmps50
 replace H := zgo H; obtain ⟨c1, H⟩ := H
 replace H := zgo H; obtain ⟨c2, H⟩ := H
 go_wp2_with (first | ((with_reducible refine gd 7 rfl ?_); refine ev_make rfl q76 z76 HS rfl (a0.length : Int) rfl rfl Tryz.underlying53 info76 rfl (by decide) (by decide) q76_zero (of_eq_true c1) (by have := of_eq_true c2; omega) ?_; clear HS; (try clear F); intro v3 w3 HS; obtain ⟨B3, d3, rfl, m3⟩ := HS.formn a0.length 0 rfl (by first | rfl | simp); (try simp only [hpn, hpm] at HS)))
 go_loopg [4] k (fun kq v_4 w' => ∃ (l21 : List S76) (x23 : Int), v_4 = .int .i64 x23 ∧ Aside0 (laws_toGotS.l0 kq l21 x23 a0 = some r) ∧ Aside0 (kq ≤ k) ∧ Hp noFP w w' [.own (Zd.slice 76 q76) l21 [.slice B3 a0.length d3]])
 case atStart => exact ⟨_, _, rfl, H, ⟨Nat.le_refl _⟩, HS⟩
 case round =>
  clear HS H; (try clear F)
  obtain ⟨l21, x23, rfl, H, HKk20, HS⟩ := hrel
  cases gk with
  | zero => exact absurd H.out (by simp [laws_toGotS.l0])
  | succ k20 =>
   simp only [laws_toGotS.l0] at H
   replace H := znif H; rcases H with ⟨c25, H⟩ | ⟨c25, H⟩
   case inl =>
    obtain rfl := zsome H
    go_wp2
    exact bodyPost_ret (results_single rfl (.tmp .nil)) rfl ⟨_, rfl, HS.pick [0] (by decide) (by rfl)⟩
   replace H := zgo H; obtain ⟨c26, H⟩ := H
   replace H := zgo H; obtain ⟨c27, H⟩ := H
   obtain ⟨ad28, B28_7, d28_7, rfl, e28_0, e28_1, e28_2, e28_3, e28_4, e28_5, e28_6, e28_7, e28_8, m28_7, y28_7⟩ := at_T152 gp0 x23 (of_eq_true c26) (of_eq_true c27)
   have e28_0_28 := (HS.keepc e28_0)
   have e28_1_28 := (HS.keepc e28_1)
   have e28_2_28 := (HS.keepc e28_2)
   have e28_3_28 := (HS.keepc e28_3)
   have e28_4_28 := (HS.keepc e28_4)
   have e28_5_28 := (HS.keepc e28_5)
   have e28_6_28 := (HS.keepc e28_6)
   have e28_7_28 := (HS.keepc e28_7)
   have e28_8_28 := (HS.keepc e28_8)
   replace H := zbind H; obtain ⟨t29, ht29, H⟩ := H
   go_wp2_with (first | ((with_reducible refine gd 20 rfl ?_); refine ev_cl1 HS (laws_toGot.calls ht29.out (HS.ro y28_7) m28_7) Tryz.func85 ?_; clear HS; (try clear F); intro v30 wt29 HS F; obtain ⟨B30, d30, rfl, m30⟩ := HS.form 1 rfl; obtain ⟨ad32, B32_7, d32_7, rfl, e32_0, e32_1, e32_2, e32_3, e32_4, e32_5, e32_6, e32_7, e32_8, m32_7, y32_7⟩ := at_T76 (HS.rd 0 rfl) x23 (of_eq_true c26) (of_eq_true c27)) | ((with_reducible refine gate_store (p := 21) rfl ?_); refine ev_set rfl q76 0 [1] x23 t29 HS (seg := [.int .i64 t29.f0, .string t29.f1.f0, .int .i64 t29.f1.f1, .int .i64 t29.f1.f2, .int .i64 t29.f1.f3, .int .i64 t29.f1.f4, .int .i64 t29.f1.f5, .slice B30 t29.f1.f6.length d30, .string t29.f1.f7]) rfl (by decide) rfl rfl rfl (by first | rfl | exact (Nat.mul_one _).symm) rfl rfl (by kernel_rfl) (by simp [Value.oneCell']) ⟨of_eq_true c26, of_eq_true c27⟩ rfl (fun S hd hh => q76_pack (x := t29) hd (hh 1 (.own (Zd.slice 154 q154) t29.f1.f6 [.slice B30 t29.f1.f6.length d30]) rfl) (by decide)) ?_; clear HS; (try clear F); intro w33 HS; (try simp only [hpn, hpm] at HS)))
   go_roundg k20
   case measure => have := HKk20.out; omega
   case rel => exact ⟨_, _, rfl, H, ⟨by have := HKk20.out; omega⟩, HS.pick [0] (by decide) (by rfl)⟩
/-! ### laws_toClient: function 19 -/
def laws_toClient.f (k : Nat) (a0 : S35) : Option (S55) := ((laws_toWaitS.f k a0.f2).bind fun t11 => ((laws_toGotS.f k a0.f3).bind fun t16 => ((laws_toIntS.f k a0.f4).bind fun t21 => (some (⟨a0.f0, a0.f1, t11, t16, t21⟩ : S55)))))
set_option maxHeartbeats 16000000 in
theorem laws_toClient.calls {k : Nat} {a0 : S35} {Ap0 : Option Addr} {np0 cp0 : Nat} {Ap1 : Option Addr} {np1 cp1 : Nat} {Ap2 : Option Addr} {np2 cp2 : Nat} {r : S55} {w : World} (h : laws_toClient.f k a0 = some r) (gp0 : k146.C w Ap0 np0 a0.f2) (lp0 : np0 ≤ cp0) (gp1 : k152.C w Ap1 np1 a0.f3) (lp1 : np1 ≤ cp1) (gp2 : (Kd.int .i64).C w Ap2 np2 a0.f4) (lp2 : np2 ≤ cp2) :
    Calls Tryz.prog 19 #[.agg #[.string a0.f0, .int .i64 a0.f1, .slice Ap0 np0 cp0, .slice Ap1 np1 cp1, .slice Ap2 np2 cp2]] w (fun e w' => ∃ v0_ v1_ v2_ : Value, e = .returned (.agg #[.string r.f0, .int .i64 r.f1, v0_, v1_, v2_]) ∧ Hp noFP w w' [.own (Zd.slice 169 q169) r.f2 [v0_], .own (Zd.slice 76 q76) r.f3 [v1_], .own (Zd.slice 3 (Zd.int .i64)) r.f4 [v2_]]) := by
 obtain rfl := C_len gp0
 obtain rfl := C_len gp1
 obtain rfl := C_len gp2
 have HS := Hp.start w
 have H := Aside0.mk h
 clear h
 unfold laws_toClient.f at H
 go_enter Tryz.func19, Tryz.ntmps19
 replace H := zbind H; obtain ⟨t11, ht11, H⟩ := H
 replace H := zbind H; obtain ⟨t16, ht16, H⟩ := H
 replace H := zbind H; obtain ⟨t21, ht21, H⟩ := H
 obtain rfl := zsome H
 go_wp2_with (first | ((with_reducible refine gd 1 rfl ?_); refine ev_bx HS ?_; clear HS; (try clear F); intro g1 w1 HS F) | ((with_reducible refine gd 2 rfl ?_); refine ev_bx HS ?_; clear HS; (try clear F); intro g2 w2 HS F) | ((with_reducible refine gd 3 rfl ?_); refine ev_bx HS ?_; clear HS; (try clear F); intro g3 w3 HS F) | ((with_reducible refine gate_store (p := 6) rfl ?_); refine ev_st 2 0 HS (seg := [.string a0.f0]) ?_; clear HS; (try clear F); intro w7 HS F) | ((with_reducible refine gate_store (p := 9) rfl ?_); refine ev_st 2 1 HS (seg := [.int .i64 a0.f1]) ?_; clear HS; (try clear F); intro w9 HS F) | ((with_reducible refine gd 12 rfl ?_); refine ev_cl1 HS (laws_toWaitS.calls ht11.out (HS.ro gp0) lp0) Tryz.func49 ?_; clear HS; (try clear F); intro v12 wt11 HS F; obtain ⟨B12, d12, rfl, m12⟩ := HS.form 3 rfl) | ((with_reducible refine gate_store (p := 13) rfl ?_); refine ev_st 2 2 HS (seg := [.slice B12 t11.length d12]) ?_; clear HS; (try clear F); intro w14 HS F) | ((with_reducible refine gd 16 rfl ?_); refine ev_cl1 HS (laws_toGotS.calls ht16.out (HS.ro gp1) lp1) Tryz.func50 ?_; clear HS; (try clear F); intro v17 wt16 HS F; obtain ⟨B17, d17, rfl, m17⟩ := HS.form 4 rfl) | ((with_reducible refine gate_store (p := 17) rfl ?_); refine ev_st 2 3 HS (seg := [.slice B17 t16.length d17]) ?_; clear HS; (try clear F); intro w19 HS F) | ((with_reducible refine gd 20 rfl ?_); refine ev_cl1 HS (laws_toIntS.calls ht21.out (HS.ro gp2) lp2) Tryz.func22 ?_; clear HS; (try clear F); intro v22 wt21 HS F; obtain ⟨B22, d22, rfl, m22⟩ := HS.form 5 rfl) | ((with_reducible refine gate_store (p := 21) rfl ?_); refine ev_st 2 4 HS (seg := [.slice B22 t21.length d22]) ?_; clear HS; (try clear F); intro w24 HS F) | ((with_reducible refine gate_store (p := 2) rfl ?_); refine ev_st 1 0 HS (seg := [.string a0.f0, .int .i64 a0.f1, .slice B12 t11.length d12, .slice B17 t16.length d17, .slice B22 t21.length d22]) ?_; clear HS; (try clear F); intro w26 HS F))
 exact bodyPost_ret (results_single rfl (.cell _ _ _ _ _ rfl (HS.boxAt (i := 1) rfl) Tryz.underlying55 rfl (by kernel_rfl) .nil)) rfl ⟨_, _, _, rfl, HS.pick [3, 4, 5] (by decide) (by rfl)⟩
end Go.Proofs.YtfiifjlapaefaaaGreat.F
