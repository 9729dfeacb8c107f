/- Functions of the program and of the law, and that their calls do what is written here. -/
import Derived.Test.YtacocpknielofaaGreatDoorZgFnExactShowWorldb
import Derived.Test.YtacocpknielofaaGreatDoorZgFnExactShowWorldc
namespace Go.Proofs.YtacocpknielofaaGreatDoor.F
open Go.RowKit Go.Proofs.YtacocpknielofaaGreatDoorW.PrintWords Go.Proofs.YtacocpknielofaaGreatDoorW.PrintLast Go.Proofs.YtacocpknielofaaGreatDoorW.PrintMore Go.Proofs.YtacocpknielofaaGreatDoor.Z
attribute [local go_sem] max2_int min2_int max_two min_two max_three min_three max_four min_four
set_option linter.unusedVariables false
set_option linter.unusedSimpArgs false
set_option maxRecDepth 100000
/-! ### laws_toReply: function 230 -/
def laws_toReply.f (k : Nat) (a0 : S269) : Option (S221) := ((laws_toAnswerS.f k a0.f6).bind fun t19 => (some (⟨a0.f0, a0.f1, a0.f2, a0.f3, a0.f4, a0.f5, t19, a0.f7⟩ : S221)))
set_option maxHeartbeats 16000000 in
theorem laws_toReply.calls {k : Nat} {a0 : S269} {Ap0 : Option Addr} {np0 cp0 : Nat} {r : S221} {w : World} (h : laws_toReply.f k a0 = some r) (gp0 : k304.C w Ap0 np0 a0.f6) (lp0 : np0 ≤ cp0) :
    Calls Tryz.prog 230 #[.agg #[.string a0.f0, .int .i64 a0.f1, .int .i64 a0.f2, .int .i64 a0.f3, .int .i64 a0.f4, .int .i64 a0.f5, .slice Ap0 np0 cp0, .string a0.f7]] w (fun e w' => ∃ v0_ : Value, e = .returned (.agg #[.string r.f0, .int .i64 r.f1, .int .i64 r.f2, .int .i64 r.f3, .int .i64 r.f4, .int .i64 r.f5, v0_, .string r.f7]) ∧ Hp noFP w w' [.own (Zd.slice 273 q273) r.f6 [v0_]]) := by
 obtain rfl := C_len gp0
 have HS := Hp.start w
 have H := Aside0.mk h
 clear h
 unfold laws_toReply.f at H
 go_enter Tryz.func230, Tryz.ntmps230
 replace H := zbind H; obtain ⟨t19, ht19, H⟩ := H
 obtain rfl := zsome H
 go_wp2_with (first | ((with_reducible refine gd 1 rfl ?_); refine ev_bx HS ?_; clear HS; (try clear F); intro g1 w1 HS F) | ((with_reducible refine gd 2 rfl ?_); refine ev_bx HS ?_; clear HS; (try clear F); intro g2 w2 HS F) | ((with_reducible refine gd 3 rfl ?_); refine ev_bx HS ?_; clear HS; (try clear F); intro g3 w3 HS F) | ((with_reducible refine gate_store (p := 6) rfl ?_); refine ev_st 2 0 HS (seg := [.string a0.f0]) ?_; clear HS; (try clear F); intro w7 HS F) | ((with_reducible refine gate_store (p := 9) rfl ?_); refine ev_st 2 1 HS (seg := [.int .i64 a0.f1]) ?_; clear HS; (try clear F); intro w9 HS F) | ((with_reducible refine gate_store (p := 12) rfl ?_); refine ev_st 2 2 HS (seg := [.int .i64 a0.f2]) ?_; clear HS; (try clear F); intro w11 HS F) | ((with_reducible refine gate_store (p := 15) rfl ?_); refine ev_st 2 3 HS (seg := [.int .i64 a0.f3]) ?_; clear HS; (try clear F); intro w13 HS F) | ((with_reducible refine gate_store (p := 18) rfl ?_); refine ev_st 2 4 HS (seg := [.int .i64 a0.f4]) ?_; clear HS; (try clear F); intro w15 HS F) | ((with_reducible refine gate_store (p := 21) rfl ?_); refine ev_st 2 5 HS (seg := [.int .i64 a0.f5]) ?_; clear HS; (try clear F); intro w17 HS F) | ((with_reducible refine gd 24 rfl ?_); refine ev_cl1 HS (laws_toAnswerS.calls ht19.out (HS.ro gp0) lp0) Tryz.func240 ?_; clear HS; (try clear F); intro v20 wt19 HS F; obtain ⟨B20, d20, rfl, m20⟩ := HS.form 3 rfl) | ((with_reducible refine gate_store (p := 25) rfl ?_); refine ev_st 2 6 HS (seg := [.slice B20 t19.length d20]) ?_; clear HS; (try clear F); intro w22 HS F) | ((with_reducible refine gate_store (p := 28) rfl ?_); refine ev_st 2 7 HS (seg := [.string a0.f7]) ?_; clear HS; (try clear F); intro w24 HS F) | ((with_reducible refine gate_store (p := 2) rfl ?_); refine ev_st 1 0 HS (seg := [.string a0.f0, .int .i64 a0.f1, .int .i64 a0.f2, .int .i64 a0.f3, .int .i64 a0.f4, .int .i64 a0.f5, .slice B20 t19.length d20, .string a0.f7]) ?_; clear HS; (try clear F); intro w26 HS F))
 exact bodyPost_ret (results_single rfl (.cell _ _ _ _ _ rfl (HS.boxAt (i := 1) rfl) Tryz.underlying221 rfl (by kernel_rfl) .nil)) rfl ⟨_, rfl, HS.pick [3] (by decide) (by rfl)⟩
/-! ### laws_toGot: function 216 -/
def laws_toGot.f (k : Nat) (a0 : S271) : Option (S223) := ((laws_toReply.f k a0.f1).bind fun t9 => (some (⟨a0.f0, (⟨t9.f0, t9.f1, t9.f2, t9.f3, t9.f4, t9.f5, t9.f6, t9.f7⟩ : S221)⟩ : S223)))
set_option maxHeartbeats 16000000 in
theorem laws_toGot.calls {k : Nat} {a0 : S271} {Ap0 : Option Addr} {np0 cp0 : Nat} {r : S223} {w : World} (h : laws_toGot.f k a0 = some r) (gp0 : k304.C w Ap0 np0 a0.f1.f6) (lp0 : np0 ≤ cp0) :
    Calls Tryz.prog 216 #[.agg #[.int .i64 a0.f0, .string a0.f1.f0, .int .i64 a0.f1.f1, .int .i64 a0.f1.f2, .int .i64 a0.f1.f3, .int .i64 a0.f1.f4, .int .i64 a0.f1.f5, .slice Ap0 np0 cp0, .string a0.f1.f7]] w (fun e w' => ∃ v0_ : Value, e = .returned (.agg #[.int .i64 r.f0, .string r.f1.f0, .int .i64 r.f1.f1, .int .i64 r.f1.f2, .int .i64 r.f1.f3, .int .i64 r.f1.f4, .int .i64 r.f1.f5, v0_, .string r.f1.f7]) ∧ Hp noFP w w' [.own (Zd.slice 273 q273) r.f1.f6 [v0_]]) := by
 obtain rfl := C_len gp0
 have HS := Hp.start w
 have H := Aside0.mk h
 clear h
 unfold laws_toGot.f at H
 go_enter Tryz.func216, Tryz.ntmps216
 replace H := zbind H; obtain ⟨t9, ht9, H⟩ := H
 obtain rfl := zsome H
 go_wp2_with (first | ((with_reducible refine gd 1 rfl ?_); refine ev_bx HS ?_; clear HS; (try clear F); intro g1 w1 HS F) | ((with_reducible refine gd 2 rfl ?_); refine ev_bx HS ?_; clear HS; (try clear F); intro g2 w2 HS F) | ((with_reducible refine gd 3 rfl ?_); refine ev_bx HS ?_; clear HS; (try clear F); intro g3 w3 HS F) | ((with_reducible refine gate_store (p := 6) rfl ?_); refine ev_st 2 0 HS (seg := [.int .i64 a0.f0]) ?_; clear HS; (try clear F); intro w7 HS F) | ((with_reducible refine gd 9 rfl ?_); refine ev_cl1 HS (laws_toReply.calls ht9.out (HS.ro gp0) lp0) Tryz.func230 ?_; clear HS; (try clear F); intro v10 wt9 HS F; obtain ⟨B10, d10, rfl, m10⟩ := HS.form 3 rfl) | ((with_reducible refine gate_store (p := 10) rfl ?_); refine ev_st 2 1 HS (seg := [.string t9.f0, .int .i64 t9.f1, .int .i64 t9.f2, .int .i64 t9.f3, .int .i64 t9.f4, .int .i64 t9.f5, .slice B10 t9.f6.length d10, .string t9.f7]) ?_; clear HS; (try clear F); intro w12 HS F) | ((with_reducible refine gate_store (p := 2) rfl ?_); refine ev_st 1 0 HS (seg := [.int .i64 a0.f0, .string t9.f0, .int .i64 t9.f1, .int .i64 t9.f2, .int .i64 t9.f3, .int .i64 t9.f4, .int .i64 t9.f5, .slice B10 t9.f6.length d10, .string t9.f7]) ?_; clear HS; (try clear F); intro w14 HS F))
 exact bodyPost_ret (results_single rfl (.cell _ _ _ _ _ rfl (HS.boxAt (i := 1) rfl) Tryz.underlying223 rfl (by kernel_rfl) .nil)) rfl ⟨_, rfl, HS.pick [3] (by decide) (by rfl)⟩
/-! ### laws_toGotS: function 166 -/
def laws_toGotS.l0 : Nat → (List S223) → Int → (List S271) → Option ((List S223))
  | 0, _, _, _ => none
  | k + 1, l21, x23, a0 => (if x23 < (a0.length : Int) then (if 0 ≤ x23 then (if x23 < (a0.length : Int) then ((laws_toGot.f k (rd_T271 a0 x23)).bind fun t29 => (laws_toGotS.l0 k (l21.set (x23).toNat t29) (wrap64 (x23 + 1)) a0)) else none) else none) else (some l21))
def laws_toGotS.f (k : Nat) (a0 : (List S271)) : Option ((List S223)) := (if 0 ≤ (a0.length : Int) then (if ((a0.length : Int)).toNat ≤ 2706490160679 then (laws_toGotS.l0 k (List.replicate a0.length z223) 0 a0) else none) else none)
set_option maxHeartbeats 16000000 in
theorem laws_toGotS.calls {k : Nat} {a0 : (List S271)} {Ap0 : Option Addr} {np0 cp0 : Nat} {r : (List S223)} {w : World} (h : laws_toGotS.f k a0 = some r) (gp0 : k271.C w Ap0 np0 a0) (lp0 : np0 ≤ cp0) :
    Calls Tryz.prog 166 #[.slice Ap0 np0 cp0] w (fun e w' => ∃ v0_ : Value, e = .returned (v0_) ∧ Hp noFP w w' [.own (Zd.slice 223 q223) r [v0_]]) := by
 obtain rfl := C_len gp0
 have HS := Hp.start w
 have H := Aside0.mk h
 clear h
 unfold laws_toGotS.f at H
 go_enter Tryz.func166, Tryz.ntmps166
 replace H := zgo H; obtain ⟨c1, H⟩ := H
 replace H := zgo H; obtain ⟨c2, H⟩ := H
 go_wp2_with (first | ((with_reducible refine gd 7 rfl ?_); refine ev_make rfl q223 z223 HS rfl (a0.length : Int) rfl rfl Tryz.underlying63 info223 rfl (by decide) (by decide) q223_zero (of_eq_true c1) (by have := of_eq_true c2; omega) ?_; clear HS; (try clear F); intro v3 w3 HS; obtain ⟨B3, d3, rfl, m3⟩ := HS.formn a0.length 0 rfl (by first | rfl | simp); (try simp only [hpn, hpm] at HS)))
 go_loopg [4] k (fun kq v_4 w' => ∃ (l21 : List S223) (x23 : Int), v_4 = .int .i64 x23 ∧ Aside0 (laws_toGotS.l0 kq l21 x23 a0 = some r) ∧ Aside0 (kq ≤ k) ∧ Hp noFP w w' [.own (Zd.slice 223 q223) l21 [.slice B3 a0.length d3]])
 case atStart => exact ⟨_, _, rfl, H, ⟨Nat.le_refl _⟩, HS⟩
 case round =>
  clear HS H; (try clear F)
  obtain ⟨l21, x23, rfl, H, HKk20, HS⟩ := hrel
  cases gk with
  | zero => exact absurd H.out (by simp [laws_toGotS.l0])
  | succ k20 =>
   simp only [laws_toGotS.l0] at H
   replace H := znif H; rcases H with ⟨c25, H⟩ | ⟨c25, H⟩
   case inl =>
    obtain rfl := zsome H
    go_wp2
    exact bodyPost_ret (results_single rfl (.tmp .nil)) rfl ⟨_, rfl, HS.pick [0] (by decide) (by rfl)⟩
   replace H := zgo H; obtain ⟨c26, H⟩ := H
   replace H := zgo H; obtain ⟨c27, H⟩ := H
   obtain ⟨ad28, B28_7, d28_7, rfl, e28_0, e28_1, e28_2, e28_3, e28_4, e28_5, e28_6, e28_7, e28_8, m28_7, y28_7⟩ := at_T271 gp0 x23 (of_eq_true c26) (of_eq_true c27)
   have e28_0_28 := (HS.keepc e28_0)
   have e28_1_28 := (HS.keepc e28_1)
   have e28_2_28 := (HS.keepc e28_2)
   have e28_3_28 := (HS.keepc e28_3)
   have e28_4_28 := (HS.keepc e28_4)
   have e28_5_28 := (HS.keepc e28_5)
   have e28_6_28 := (HS.keepc e28_6)
   have e28_7_28 := (HS.keepc e28_7)
   have e28_8_28 := (HS.keepc e28_8)
   replace H := zbind H; obtain ⟨t29, ht29, H⟩ := H
   go_wp2_with (first | ((with_reducible refine gd 20 rfl ?_); refine ev_cl1 HS (laws_toGot.calls ht29.out (HS.ro y28_7) m28_7) Tryz.func216 ?_; clear HS; (try clear F); intro v30 wt29 HS F; obtain ⟨B30, d30, rfl, m30⟩ := HS.form 1 rfl; obtain ⟨ad32, B32_7, d32_7, rfl, e32_0, e32_1, e32_2, e32_3, e32_4, e32_5, e32_6, e32_7, e32_8, m32_7, y32_7⟩ := at_T223 (HS.rd 0 rfl) x23 (of_eq_true c26) (of_eq_true c27)) | ((with_reducible refine gate_store (p := 21) rfl ?_); refine ev_set rfl q223 0 [1] x23 t29 HS (seg := [.int .i64 t29.f0, .string t29.f1.f0, .int .i64 t29.f1.f1, .int .i64 t29.f1.f2, .int .i64 t29.f1.f3, .int .i64 t29.f1.f4, .int .i64 t29.f1.f5, .slice B30 t29.f1.f6.length d30, .string t29.f1.f7]) rfl (by decide) rfl rfl rfl (by first | rfl | exact (Nat.mul_one _).symm) rfl rfl (by kernel_rfl) (by simp [Value.oneCell']) ⟨of_eq_true c26, of_eq_true c27⟩ rfl (fun S hd hh => q223_pack (x := t29) hd (hh 1 (.own (Zd.slice 273 q273) t29.f1.f6 [.slice B30 t29.f1.f6.length d30]) rfl) (by decide)) ?_; clear HS; (try clear F); intro w33 HS; (try simp only [hpn, hpm] at HS)))
   go_roundg k20
   case measure => have := HKk20.out; omega
   case rel => exact ⟨_, _, rfl, H, ⟨by have := HKk20.out; omega⟩, HS.pick [0] (by decide) (by rfl)⟩
/-! ### laws_toClient: function 91 -/
def laws_toClient.f (k : Nat) (a0 : S54) : Option (S65) := ((laws_toWaitS.f k a0.f2).bind fun t11 => ((laws_toGotS.f k a0.f3).bind fun t16 => ((laws_toIntS.f k a0.f4).bind fun t21 => (some (⟨a0.f0, a0.f1, t11, t16, t21⟩ : S65)))))
set_option maxHeartbeats 16000000 in
theorem laws_toClient.calls {k : Nat} {a0 : S54} {Ap0 : Option Addr} {np0 cp0 : Nat} {Ap1 : Option Addr} {np1 cp1 : Nat} {Ap2 : Option Addr} {np2 cp2 : Nat} {r : S65} {w : World} (h : laws_toClient.f k a0 = some r) (gp0 : k265.C w Ap0 np0 a0.f2) (lp0 : np0 ≤ cp0) (gp1 : k271.C w Ap1 np1 a0.f3) (lp1 : np1 ≤ cp1) (gp2 : (Kd.int .i64).C w Ap2 np2 a0.f4) (lp2 : np2 ≤ cp2) :
    Calls Tryz.prog 91 #[.agg #[.string a0.f0, .int .i64 a0.f1, .slice Ap0 np0 cp0, .slice Ap1 np1 cp1, .slice Ap2 np2 cp2]] w (fun e w' => ∃ v0_ v1_ v2_ : Value, e = .returned (.agg #[.string r.f0, .int .i64 r.f1, v0_, v1_, v2_]) ∧ Hp noFP w w' [.own (Zd.slice 274 q274) r.f2 [v0_], .own (Zd.slice 223 q223) r.f3 [v1_], .own (Zd.slice 3 (Zd.int .i64)) r.f4 [v2_]]) := by
 obtain rfl := C_len gp0
 obtain rfl := C_len gp1
 obtain rfl := C_len gp2
 have HS := Hp.start w
 have H := Aside0.mk h
 clear h
 unfold laws_toClient.f at H
 go_enter Tryz.func91, Tryz.ntmps91
 replace H := zbind H; obtain ⟨t11, ht11, H⟩ := H
 replace H := zbind H; obtain ⟨t16, ht16, H⟩ := H
 replace H := zbind H; obtain ⟨t21, ht21, H⟩ := H
 obtain rfl := zsome H
 go_wp2_with (first | ((with_reducible refine gd 1 rfl ?_); refine ev_bx HS ?_; clear HS; (try clear F); intro g1 w1 HS F) | ((with_reducible refine gd 2 rfl ?_); refine ev_bx HS ?_; clear HS; (try clear F); intro g2 w2 HS F) | ((with_reducible refine gd 3 rfl ?_); refine ev_bx HS ?_; clear HS; (try clear F); intro g3 w3 HS F) | ((with_reducible refine gate_store (p := 6) rfl ?_); refine ev_st 2 0 HS (seg := [.string a0.f0]) ?_; clear HS; (try clear F); intro w7 HS F) | ((with_reducible refine gate_store (p := 9) rfl ?_); refine ev_st 2 1 HS (seg := [.int .i64 a0.f1]) ?_; clear HS; (try clear F); intro w9 HS F) | ((with_reducible refine gd 12 rfl ?_); refine ev_cl1 HS (laws_toWaitS.calls ht11.out (HS.ro gp0) lp0) Tryz.func165 ?_; clear HS; (try clear F); intro v12 wt11 HS F; obtain ⟨B12, d12, rfl, m12⟩ := HS.form 3 rfl) | ((with_reducible refine gate_store (p := 13) rfl ?_); refine ev_st 2 2 HS (seg := [.slice B12 t11.length d12]) ?_; clear HS; (try clear F); intro w14 HS F) | ((with_reducible refine gd 16 rfl ?_); refine ev_cl1 HS (laws_toGotS.calls ht16.out (HS.ro gp1) lp1) Tryz.func166 ?_; clear HS; (try clear F); intro v17 wt16 HS F; obtain ⟨B17, d17, rfl, m17⟩ := HS.form 4 rfl) | ((with_reducible refine gate_store (p := 17) rfl ?_); refine ev_st 2 3 HS (seg := [.slice B17 t16.length d17]) ?_; clear HS; (try clear F); intro w19 HS F) | ((with_reducible refine gd 20 rfl ?_); refine ev_cl1 HS (laws_toIntS.calls ht21.out (HS.ro gp2) lp2) Tryz.func93 ?_; clear HS; (try clear F); intro v22 wt21 HS F; obtain ⟨B22, d22, rfl, m22⟩ := HS.form 5 rfl) | ((with_reducible refine gate_store (p := 21) rfl ?_); refine ev_st 2 4 HS (seg := [.slice B22 t21.length d22]) ?_; clear HS; (try clear F); intro w24 HS F) | ((with_reducible refine gate_store (p := 2) rfl ?_); refine ev_st 1 0 HS (seg := [.string a0.f0, .int .i64 a0.f1, .slice B12 t11.length d12, .slice B17 t16.length d17, .slice B22 t21.length d22]) ?_; clear HS; (try clear F); intro w26 HS F))
 exact bodyPost_ret (results_single rfl (.cell _ _ _ _ _ rfl (HS.boxAt (i := 1) rfl) Tryz.underlying65 rfl (by kernel_rfl) .nil)) rfl ⟨_, _, _, rfl, HS.pick [3, 4, 5] (by decide) (by rfl)⟩
/-! ### laws_toLetter: function 167 -/
def laws_toLetter.f (a0 : S214) : Option (S228) := (some (⟨a0.f0, a0.f1⟩ : S228))
set_option maxHeartbeats 16000000 in
theorem laws_toLetter.calls {a0 : S214} {r : S228} {w : World} (h : laws_toLetter.f a0 = some r) :
    Calls Tryz.prog 167 #[.agg #[.bool a0.f0, .string a0.f1]] w (fun e w' => e = .returned (.agg #[.bool r.f0, .string r.f1]) ∧ Hp noFP w w' []) := by
 have HS := Hp.start w
 have H := Aside0.mk h
 clear h
 unfold laws_toLetter.f at H
 go_enter Tryz.func167, Tryz.ntmps167
 obtain rfl := zsome H
 go_wp2_with (first | ((with_reducible refine gd 1 rfl ?_); refine ev_bx HS ?_; clear HS; (try clear F); intro g1 w1 HS F) | ((with_reducible refine gd 2 rfl ?_); refine ev_bx HS ?_; clear HS; (try clear F); intro g2 w2 HS F) | ((with_reducible refine gd 3 rfl ?_); refine ev_bx HS ?_; clear HS; (try clear F); intro g3 w3 HS F) | ((with_reducible refine gate_store (p := 6) rfl ?_); refine ev_st 2 0 HS (seg := [.bool a0.f0]) ?_; clear HS; (try clear F); intro w7 HS F) | ((with_reducible refine gate_store (p := 9) rfl ?_); refine ev_st 2 1 HS (seg := [.string a0.f1]) ?_; clear HS; (try clear F); intro w9 HS F) | ((with_reducible refine gate_store (p := 2) rfl ?_); refine ev_st 1 0 HS (seg := [.bool a0.f0, .string a0.f1]) ?_; clear HS; (try clear F); intro w11 HS F))
 exact bodyPost_ret (results_single rfl (.cell _ _ _ _ _ rfl (HS.boxAt (i := 1) rfl) Tryz.underlying228 rfl (by kernel_rfl) .nil)) rfl ⟨rfl, HS.pick [] (by decide) (by rfl)⟩
/-! ### laws_toLetterS: function 92 -/
def laws_toLetterS.l0 : Nat → (List S228) → Int → (List S214) → Option ((List S228))
  | 0, _, _, _ => none
  | k + 1, l20, x22, a0 => (if x22 < (a0.length : Int) then (if 0 ≤ x22 then (if x22 < (a0.length : Int) then ((laws_toLetter.f (rd_T214 a0 x22)).bind fun t28 => (laws_toLetterS.l0 k (l20.set (x22).toNat t28) (wrap64 (x22 + 1)) a0)) else none) else none) else (some l20))
def laws_toLetterS.f (k : Nat) (a0 : (List S214)) : Option ((List S228)) := (if 0 ≤ (a0.length : Int) then (if ((a0.length : Int)).toNat ≤ 11728124029610 then (laws_toLetterS.l0 k (List.replicate a0.length z228) 0 a0) else none) else none)
set_option maxHeartbeats 16000000 in
theorem laws_toLetterS.calls {k : Nat} {a0 : (List S214)} {Ap0 : Option Addr} {np0 cp0 : Nat} {r : (List S228)} {w : World} (h : laws_toLetterS.f k a0 = some r) (gp0 : k214.C w Ap0 np0 a0) (lp0 : np0 ≤ cp0) :
    Calls Tryz.prog 92 #[.slice Ap0 np0 cp0] w (fun e w' => ∃ v0_ : Value, e = .returned (v0_) ∧ Hp noFP w w' [.own (Zd.slice 228 q228) r [v0_]]) := by
 obtain rfl := C_len gp0
 have HS := Hp.start w
 have H := Aside0.mk h
 clear h
 unfold laws_toLetterS.f at H
 go_enter Tryz.func92, Tryz.ntmps92
 replace H := zgo H; obtain ⟨c1, H⟩ := H
 replace H := zgo H; obtain ⟨c2, H⟩ := H
 go_wp2_with (first | ((with_reducible refine gd 7 rfl ?_); refine ev_make rfl q228 z228 HS rfl (a0.length : Int) rfl rfl Tryz.underlying66 info228 rfl (by decide) (by decide) q228_zero (of_eq_true c1) (by have := of_eq_true c2; omega) ?_; clear HS; (try clear F); intro v3 w3 HS; obtain ⟨B3, d3, rfl, m3⟩ := HS.formn a0.length 0 rfl (by first | rfl | simp); (try simp only [hpn, hpm] at HS)))
 go_loopg [4] k (fun kq v_4 w' => ∃ (l20 : List S228) (x22 : Int), v_4 = .int .i64 x22 ∧ Aside0 (laws_toLetterS.l0 kq l20 x22 a0 = some r) ∧ Aside0 (kq ≤ k) ∧ Hp noFP w w' [.own (Zd.slice 228 q228) l20 [.slice B3 a0.length d3]])
 case atStart => exact ⟨_, _, rfl, H, ⟨Nat.le_refl _⟩, HS⟩
 case round =>
  clear HS H; (try clear F)
  obtain ⟨l20, x22, rfl, H, HKk19, HS⟩ := hrel
  cases gk with
  | zero => exact absurd H.out (by simp [laws_toLetterS.l0])
  | succ k19 =>
   simp only [laws_toLetterS.l0] at H
   replace H := znif H; rcases H with ⟨c24, H⟩ | ⟨c24, H⟩
   case inl =>
    obtain rfl := zsome H
    go_wp2
    exact bodyPost_ret (results_single rfl (.tmp .nil)) rfl ⟨_, rfl, HS.pick [0] (by decide) (by rfl)⟩
   replace H := zgo H; obtain ⟨c25, H⟩ := H
   replace H := zgo H; obtain ⟨c26, H⟩ := H
   obtain ⟨ad27, rfl, e27_0, e27_1⟩ := at_T214 gp0 x22 (of_eq_true c25) (of_eq_true c26)
   have e27_0_27 := (HS.keepc e27_0)
   have e27_1_27 := (HS.keepc e27_1)
   replace H := zbind H; obtain ⟨t28, ht28, H⟩ := H
   go_wp2_with (first | ((with_reducible refine gd 20 rfl ?_); refine ev_cl HS (laws_toLetter.calls ht28.out) Tryz.func167 ?_; clear HS; (try clear F); intro wt28 HS F; obtain ⟨ad30, rfl, e30_0, e30_1⟩ := at_T228 (HS.rd 0 rfl) x22 (of_eq_true c25) (of_eq_true c26)) | ((with_reducible refine gate_store (p := 21) rfl ?_); refine ev_set rfl q228 0 [] x22 t28 HS (seg := [.bool t28.f0, .string t28.f1]) rfl (by decide) rfl rfl rfl (by first | rfl | exact (Nat.mul_one _).symm) rfl rfl (by kernel_rfl) (by simp [Value.oneCell']) ⟨of_eq_true c25, of_eq_true c26⟩ rfl (made_flat (fun _ => q228_flat _ _ _)) ?_; clear HS; (try clear F); intro w31 HS; (try simp only [hpn, hpm] at HS)))
   go_roundg k19
   case measure => have := HKk19.out; omega
   case rel => exact ⟨_, _, rfl, H, ⟨by have := HKk19.out; omega⟩, HS.pick [0] (by decide) (by rfl)⟩
/-! ### laws_toPose: function 168 -/
def laws_toPose.f (a0 : S217) : Option (S230) := (some (⟨a0.f0, a0.f1⟩ : S230))
set_option maxHeartbeats 16000000 in
theorem laws_toPose.calls {a0 : S217} {r : S230} {w : World} (h : laws_toPose.f a0 = some r) :
    Calls Tryz.prog 168 #[.agg #[.int .i64 a0.f0, .string a0.f1]] w (fun e w' => e = .returned (.agg #[.int .i64 r.f0, .string r.f1]) ∧ Hp noFP w w' []) := by
 have HS := Hp.start w
 have H := Aside0.mk h
 clear h
 unfold laws_toPose.f at H
 go_enter Tryz.func168, Tryz.ntmps168
 obtain rfl := zsome H
 go_wp2_with (first | ((with_reducible refine gd 1 rfl ?_); refine ev_bx HS ?_; clear HS; (try clear F); intro g1 w1 HS F) | ((with_reducible refine gd 2 rfl ?_); refine ev_bx HS ?_; clear HS; (try clear F); intro g2 w2 HS F) | ((with_reducible refine gd 3 rfl ?_); refine ev_bx HS ?_; clear HS; (try clear F); intro g3 w3 HS F) | ((with_reducible refine gate_store (p := 6) rfl ?_); refine ev_st 2 0 HS (seg := [.int .i64 a0.f0]) ?_; clear HS; (try clear F); intro w7 HS F) | ((with_reducible refine gate_store (p := 9) rfl ?_); refine ev_st 2 1 HS (seg := [.string a0.f1]) ?_; clear HS; (try clear F); intro w9 HS F) | ((with_reducible refine gate_store (p := 2) rfl ?_); refine ev_st 1 0 HS (seg := [.int .i64 a0.f0, .string a0.f1]) ?_; clear HS; (try clear F); intro w11 HS F))
 exact bodyPost_ret (results_single rfl (.cell _ _ _ _ _ rfl (HS.boxAt (i := 1) rfl) Tryz.underlying230 rfl (by kernel_rfl) .nil)) rfl ⟨rfl, HS.pick [] (by decide) (by rfl)⟩
/-! ### laws_toPoseS: function 94 -/
def laws_toPoseS.l0 : Nat → (List S230) → Int → (List S217) → Option ((List S230))
  | 0, _, _, _ => none
  | k + 1, l20, x22, a0 => (if x22 < (a0.length : Int) then (if 0 ≤ x22 then (if x22 < (a0.length : Int) then ((laws_toPose.f (rd_T217 a0 x22)).bind fun t28 => (laws_toPoseS.l0 k (l20.set (x22).toNat t28) (wrap64 (x22 + 1)) a0)) else none) else none) else (some l20))
def laws_toPoseS.f (k : Nat) (a0 : (List S217)) : Option ((List S230)) := (if 0 ≤ (a0.length : Int) then (if ((a0.length : Int)).toNat ≤ 11728124029610 then (laws_toPoseS.l0 k (List.replicate a0.length z230) 0 a0) else none) else none)
set_option maxHeartbeats 16000000 in
theorem laws_toPoseS.calls {k : Nat} {a0 : (List S217)} {Ap0 : Option Addr} {np0 cp0 : Nat} {r : (List S230)} {w : World} (h : laws_toPoseS.f k a0 = some r) (gp0 : k217.C w Ap0 np0 a0) (lp0 : np0 ≤ cp0) :
    Calls Tryz.prog 94 #[.slice Ap0 np0 cp0] w (fun e w' => ∃ v0_ : Value, e = .returned (v0_) ∧ Hp noFP w w' [.own (Zd.slice 230 q230) r [v0_]]) := by
 obtain rfl := C_len gp0
 have HS := Hp.start w
 have H := Aside0.mk h
 clear h
 unfold laws_toPoseS.f at H
 go_enter Tryz.func94, Tryz.ntmps94
 replace H := zgo H; obtain ⟨c1, H⟩ := H
 replace H := zgo H; obtain ⟨c2, H⟩ := H
 go_wp2_with (first | ((with_reducible refine gd 7 rfl ?_); refine ev_make rfl q230 z230 HS rfl (a0.length : Int) rfl rfl Tryz.underlying67 info230 rfl (by decide) (by decide) q230_zero (of_eq_true c1) (by have := of_eq_true c2; omega) ?_; clear HS; (try clear F); intro v3 w3 HS; obtain ⟨B3, d3, rfl, m3⟩ := HS.formn a0.length 0 rfl (by first | rfl | simp); (try simp only [hpn, hpm] at HS)))
 go_loopg [4] k (fun kq v_4 w' => ∃ (l20 : List S230) (x22 : Int), v_4 = .int .i64 x22 ∧ Aside0 (laws_toPoseS.l0 kq l20 x22 a0 = some r) ∧ Aside0 (kq ≤ k) ∧ Hp noFP w w' [.own (Zd.slice 230 q230) l20 [.slice B3 a0.length d3]])
 case atStart => exact ⟨_, _, rfl, H, ⟨Nat.le_refl _⟩, HS⟩
 case round =>
  clear HS H; (try clear F)
  obtain ⟨l20, x22, rfl, H, HKk19, HS⟩ := hrel
  cases gk with
  | zero => exact absurd H.out (by simp [laws_toPoseS.l0])
  | succ k19 =>
   simp only [laws_toPoseS.l0] at H
   replace H := znif H; rcases H with ⟨c24, H⟩ | ⟨c24, H⟩
   case inl =>
    obtain rfl := zsome H
    go_wp2
    exact bodyPost_ret (results_single rfl (.tmp .nil)) rfl ⟨_, rfl, HS.pick [0] (by decide) (by rfl)⟩
   replace H := zgo H; obtain ⟨c25, H⟩ := H
   replace H := zgo H; obtain ⟨c26, H⟩ := H
   obtain ⟨ad27, rfl, e27_0, e27_1⟩ := at_T217 gp0 x22 (of_eq_true c25) (of_eq_true c26)
   have e27_0_27 := (HS.keepc e27_0)
   have e27_1_27 := (HS.keepc e27_1)
   replace H := zbind H; obtain ⟨t28, ht28, H⟩ := H
   go_wp2_with (first | ((with_reducible refine gd 20 rfl ?_); refine ev_cl HS (laws_toPose.calls ht28.out) Tryz.func168 ?_; clear HS; (try clear F); intro wt28 HS F; obtain ⟨ad30, rfl, e30_0, e30_1⟩ := at_T230 (HS.rd 0 rfl) x22 (of_eq_true c25) (of_eq_true c26)) | ((with_reducible refine gate_store (p := 21) rfl ?_); refine ev_set rfl q230 0 [] x22 t28 HS (seg := [.int .i64 t28.f0, .string t28.f1]) rfl (by decide) rfl rfl rfl (by first | rfl | exact (Nat.mul_one _).symm) rfl rfl (by kernel_rfl) (by simp [Value.oneCell']) ⟨of_eq_true c25, of_eq_true c26⟩ rfl (made_flat (fun _ => q230_flat _ _ _)) ?_; clear HS; (try clear F); intro w31 HS; (try simp only [hpn, hpm] at HS)))
   go_roundg k19
   case measure => have := HKk19.out; omega
   case rel => exact ⟨_, _, rfl, H, ⟨by have := HKk19.out; omega⟩, HS.pick [0] (by decide) (by rfl)⟩
/-! ### laws_toWorld: function 23 -/
def laws_toWorld.f (k : Nat) (a0 : S59) : Option (S69) := ((laws_toServer.f k a0.f0).bind fun t7 => ((laws_toClient.f k a0.f1).bind fun t16 => ((laws_toCertS.f k a0.f2).bind fun t23 => ((laws_toLetterS.f k a0.f3).bind fun t28 => ((laws_toIntS.f k a0.f4).bind fun t33 => ((laws_toPoseS.f k a0.f5).bind fun t38 => ((laws_toStringS.f k a0.f6).bind fun t43 => ((laws_toStringS.f k a0.f7).bind fun t48 => (some (⟨(⟨(⟨t7.f0.f0, t7.f0.f1, t7.f0.f2⟩ : S33), t7.f1, t7.f2, t7.f3, t7.f4, t7.f5⟩ : S46), (⟨t16.f0, t16.f1, t16.f2, t16.f3, t16.f4⟩ : S65), t23, t28, t33, t38, t43, t48⟩ : S69))))))))))
set_option maxHeartbeats 16000000 in
theorem laws_toWorld.calls {k : Nat} {a0 : S59} {Ap0 : Option Addr} {np0 cp0 : Nat} {Ap1 : Option Addr} {np1 cp1 : Nat} {Ap2 : Option Addr} {np2 cp2 : Nat} {Ap3 : Option Addr} {np3 cp3 : Nat} {Ap4 : Option Addr} {np4 cp4 : Nat} {Ap5 : Option Addr} {np5 cp5 : Nat} {Ap6 : Option Addr} {np6 cp6 : Nat} {Ap7 : Option Addr} {np7 cp7 : Nat} {Ap8 : Option Addr} {np8 cp8 : Nat} {Ap9 : Option Addr} {np9 cp9 : Nat} {Ap10 : Option Addr} {np10 cp10 : Nat} {Ap11 : Option Addr} {np11 cp11 : Nat} {Ap12 : Option Addr} {np12 cp12 : Nat} {Ap13 : Option Addr} {np13 cp13 : Nat} {r : S69} {w : World} (h : laws_toWorld.f k a0 = some r) (gp0 : k88.C w Ap0 np0 a0.f0.f0.f0) (lp0 : np0 ≤ cp0) (gp1 : k75.C w Ap1 np1 a0.f0.f0.f1) (lp1 : np1 ≤ cp1) (gp2 : k178.C w Ap2 np2 a0.f0.f0.f2) (lp2 : np2 ≤ cp2) (gp3 : k196.C w Ap3 np3 a0.f0.f1) (lp3 : np3 ≤ cp3) (gp4 : k199.C w Ap4 np4 a0.f0.f5) (lp4 : np4 ≤ cp4) (gp5 : k265.C w Ap5 np5 a0.f1.f2) (lp5 : np5 ≤ cp5) (gp6 : k271.C w Ap6 np6 a0.f1.f3) (lp6 : np6 ≤ cp6) (gp7 : (Kd.int .i64).C w Ap7 np7 a0.f1.f4) (lp7 : np7 ≤ cp7) (gp8 : k88.C w Ap8 np8 a0.f2) (lp8 : np8 ≤ cp8) (gp9 : k214.C w Ap9 np9 a0.f3) (lp9 : np9 ≤ cp9) (gp10 : (Kd.int .i64).C w Ap10 np10 a0.f4) (lp10 : np10 ≤ cp10) (gp11 : k217.C w Ap11 np11 a0.f5) (lp11 : np11 ≤ cp11) (gp12 : Kd.string.C w Ap12 np12 a0.f6) (lp12 : np12 ≤ cp12) (gp13 : Kd.string.C w Ap13 np13 a0.f7) (lp13 : np13 ≤ cp13) :
    Calls Tryz.prog 23 #[.agg #[.slice Ap0 np0 cp0, .slice Ap1 np1 cp1, .slice Ap2 np2 cp2, .slice Ap3 np3 cp3, .int .i64 a0.f0.f2, .int .i64 a0.f0.f3, .int .i64 a0.f0.f4, .slice Ap4 np4 cp4, .string a0.f1.f0, .int .i64 a0.f1.f1, .slice Ap5 np5 cp5, .slice Ap6 np6 cp6, .slice Ap7 np7 cp7, .slice Ap8 np8 cp8, .slice Ap9 np9 cp9, .slice Ap10 np10 cp10, .slice Ap11 np11 cp11, .slice Ap12 np12 cp12, .slice Ap13 np13 cp13]] w (fun e w' => ∃ v0_ v1_ v2_ v3_ v4_ v5_ v6_ v7_ v8_ v9_ v10_ v11_ v12_ v13_ : Value, e = .returned (.agg #[v0_, v1_, v2_, v3_, .int .i64 r.f0.f2, .int .i64 r.f0.f3, .int .i64 r.f0.f4, v4_, .string r.f1.f0, .int .i64 r.f1.f1, v5_, v6_, v7_, v8_, v9_, v10_, v11_, v12_, v13_]) ∧ Hp noFP w w' [.own (Zd.slice 91 q91) r.f0.f0.f0 [v0_], .own (Zd.slice 81 q81) r.f0.f0.f1 [v1_], .own (Zd.slice 115 q115) r.f0.f0.f2 [v2_], .own (Zd.slice 202 q202) r.f0.f1 [v3_], .own (Zd.slice 205 q205) r.f0.f5 [v4_], .own (Zd.slice 274 q274) r.f1.f2 [v5_], .own (Zd.slice 223 q223) r.f1.f3 [v6_], .own (Zd.slice 3 (Zd.int .i64)) r.f1.f4 [v7_], .own (Zd.slice 91 q91) r.f2 [v8_], .own (Zd.slice 228 q228) r.f3 [v9_], .own (Zd.slice 3 (Zd.int .i64)) r.f4 [v10_], .own (Zd.slice 230 q230) r.f5 [v11_], .own (Zd.slice 9 Zd.string) r.f6 [v12_], .own (Zd.slice 9 Zd.string) r.f7 [v13_]]) := by
 obtain rfl := C_len gp0
 obtain rfl := C_len gp1
 obtain rfl := C_len gp2
 obtain rfl := C_len gp3
 obtain rfl := C_len gp4
 obtain rfl := C_len gp5
 obtain rfl := C_len gp6
 obtain rfl := C_len gp7
 obtain rfl := C_len gp8
 obtain rfl := C_len gp9
 obtain rfl := C_len gp10
 obtain rfl := C_len gp11
 obtain rfl := C_len gp12
 obtain rfl := C_len gp13
 have HS := Hp.start w
 have H := Aside0.mk h
 clear h
 unfold laws_toWorld.f at H
 go_enter Tryz.func23, Tryz.ntmps23
 replace H := zbind H; obtain ⟨t7, ht7, H⟩ := H
 replace H := zbind H; obtain ⟨t16, ht16, H⟩ := H
 replace H := zbind H; obtain ⟨t23, ht23, H⟩ := H
 replace H := zbind H; obtain ⟨t28, ht28, H⟩ := H
 replace H := zbind H; obtain ⟨t33, ht33, H⟩ := H
 replace H := zbind H; obtain ⟨t38, ht38, H⟩ := H
 replace H := zbind H; obtain ⟨t43, ht43, H⟩ := H
 replace H := zbind H; obtain ⟨t48, ht48, H⟩ := H
 obtain rfl := zsome H
 go_wp2_with (first | ((with_reducible refine gd 1 rfl ?_); refine ev_bx HS ?_; clear HS; (try clear F); intro g1 w1 HS F) | ((with_reducible refine gd 2 rfl ?_); refine ev_bx HS ?_; clear HS; (try clear F); intro g2 w2 HS F) | ((with_reducible refine gd 3 rfl ?_); refine ev_bx HS ?_; clear HS; (try clear F); intro g3 w3 HS F) | ((with_reducible refine gd 6 rfl ?_); refine ev_cl5 HS (laws_toServer.calls ht7.out (HS.ro gp0) lp0 (HS.ro gp1) lp1 (HS.ro gp2) lp2 (HS.ro gp3) lp3 (HS.ro gp4) lp4) Tryz.func18 ?_; clear HS; (try clear F); intro v8 v9 v10 v11 v12 wt7 HS F; obtain ⟨B8, d8, rfl, m8⟩ := HS.form 3 rfl; obtain ⟨B9, d9, rfl, m9⟩ := HS.form 4 rfl; obtain ⟨B10, d10, rfl, m10⟩ := HS.form 5 rfl; obtain ⟨B11, d11, rfl, m11⟩ := HS.form 6 rfl; obtain ⟨B12, d12, rfl, m12⟩ := HS.form 7 rfl) | ((with_reducible refine gate_store (p := 7) rfl ?_); refine ev_st 2 0 HS (seg := [.slice B8 t7.f0.f0.length d8, .slice B9 t7.f0.f1.length d9, .slice B10 t7.f0.f2.length d10, .slice B11 t7.f1.length d11, .int .i64 t7.f2, .int .i64 t7.f3, .int .i64 t7.f4, .slice B12 t7.f5.length d12]) ?_; clear HS; (try clear F); intro w14 HS F) | ((with_reducible refine gd 10 rfl ?_); refine ev_cl3 HS (laws_toClient.calls ht16.out (HS.ro gp5) lp5 (HS.ro gp6) lp6 (HS.ro gp7) lp7) Tryz.func91 ?_; clear HS; (try clear F); intro v17 v18 v19 wt16 HS F; obtain ⟨B17, d17, rfl, m17⟩ := HS.form 8 rfl; obtain ⟨B18, d18, rfl, m18⟩ := HS.form 9 rfl; obtain ⟨B19, d19, rfl, m19⟩ := HS.form 10 rfl) | ((with_reducible refine gate_store (p := 11) rfl ?_); refine ev_st 2 8 HS (seg := [.string t16.f0, .int .i64 t16.f1, .slice B17 t16.f2.length d17, .slice B18 t16.f3.length d18, .slice B19 t16.f4.length d19]) ?_; clear HS; (try clear F); intro w21 HS F) | ((with_reducible refine gd 14 rfl ?_); refine ev_cl1 HS (laws_toCertS.calls ht23.out (HS.ro gp8) lp8) Tryz.func58 ?_; clear HS; (try clear F); intro v24 wt23 HS F; obtain ⟨B24, d24, rfl, m24⟩ := HS.form 11 rfl) | ((with_reducible refine gate_store (p := 15) rfl ?_); refine ev_st 2 13 HS (seg := [.slice B24 t23.length d24]) ?_; clear HS; (try clear F); intro w26 HS F) | ((with_reducible refine gd 18 rfl ?_); refine ev_cl1 HS (laws_toLetterS.calls ht28.out (HS.ro gp9) lp9) Tryz.func92 ?_; clear HS; (try clear F); intro v29 wt28 HS F; obtain ⟨B29, d29, rfl, m29⟩ := HS.form 12 rfl) | ((with_reducible refine gate_store (p := 19) rfl ?_); refine ev_st 2 14 HS (seg := [.slice B29 t28.length d29]) ?_; clear HS; (try clear F); intro w31 HS F) | ((with_reducible refine gd 22 rfl ?_); refine ev_cl1 HS (laws_toIntS.calls ht33.out (HS.ro gp10) lp10) Tryz.func93 ?_; clear HS; (try clear F); intro v34 wt33 HS F; obtain ⟨B34, d34, rfl, m34⟩ := HS.form 13 rfl) | ((with_reducible refine gate_store (p := 23) rfl ?_); refine ev_st 2 15 HS (seg := [.slice B34 t33.length d34]) ?_; clear HS; (try clear F); intro w36 HS F) | ((with_reducible refine gd 26 rfl ?_); refine ev_cl1 HS (laws_toPoseS.calls ht38.out (HS.ro gp11) lp11) Tryz.func94 ?_; clear HS; (try clear F); intro v39 wt38 HS F; obtain ⟨B39, d39, rfl, m39⟩ := HS.form 14 rfl) | ((with_reducible refine gate_store (p := 27) rfl ?_); refine ev_st 2 16 HS (seg := [.slice B39 t38.length d39]) ?_; clear HS; (try clear F); intro w41 HS F) | ((with_reducible refine gd 30 rfl ?_); refine ev_cl1 HS (laws_toStringS.calls ht43.out (HS.ro gp12) lp12) Tryz.func95 ?_; clear HS; (try clear F); intro v44 wt43 HS F; obtain ⟨B44, d44, rfl, m44⟩ := HS.form 15 rfl) | ((with_reducible refine gate_store (p := 31) rfl ?_); refine ev_st 2 17 HS (seg := [.slice B44 t43.length d44]) ?_; clear HS; (try clear F); intro w46 HS F) | ((with_reducible refine gd 34 rfl ?_); refine ev_cl1 HS (laws_toStringS.calls ht48.out (HS.ro gp13) lp13) Tryz.func95 ?_; clear HS; (try clear F); intro v49 wt48 HS F; obtain ⟨B49, d49, rfl, m49⟩ := HS.form 16 rfl) | ((with_reducible refine gate_store (p := 35) rfl ?_); refine ev_st 2 18 HS (seg := [.slice B49 t48.length d49]) ?_; clear HS; (try clear F); intro w51 HS F) | ((with_reducible refine gd 36 rfl ?_); refine ev_ld 2 HS Tryz.underlying69 rfl ?_) | ((with_reducible refine gate_store (p := 2) rfl ?_); refine ev_st 1 0 HS (seg := [.slice B8 t7.f0.f0.length d8, .slice B9 t7.f0.f1.length d9, .slice B10 t7.f0.f2.length d10, .slice B11 t7.f1.length d11, .int .i64 t7.f2, .int .i64 t7.f3, .int .i64 t7.f4, .slice B12 t7.f5.length d12, .string t16.f0, .int .i64 t16.f1, .slice B17 t16.f2.length d17, .slice B18 t16.f3.length d18, .slice B19 t16.f4.length d19, .slice B24 t23.length d24, .slice B29 t28.length d29, .slice B34 t33.length d34, .slice B39 t38.length d39, .slice B44 t43.length d44, .slice B49 t48.length d49]) ?_; clear HS; (try clear F); intro w53 HS F))
 exact bodyPost_ret (results_single rfl (.cell _ _ _ _ _ rfl (HS.boxAt (i := 1) rfl) Tryz.underlying69 rfl (by kernel_rfl) .nil)) rfl ⟨_, _, _, _, _, _, _, _, _, _, _, _, _, _, rfl, HS.pick [3, 4, 5, 6, 7, 8, 9, 10, 11, 12, 13, 14, 15, 16] (by decide) (by rfl)⟩
/-! ### impl_Decimal: function 98 -/
def impl_Decimal.f (a0 : Int) : Option (ByteArray) := ((strconv_Itoa.f a0).bind fun t1 => (some t1))
set_option maxHeartbeats 16000000 in
theorem impl_Decimal.calls {a0 : Int} {r : ByteArray} {w : World} (h : impl_Decimal.f a0 = some r) (hgT : Go.Lib.TabIs Tryz.prog w "internal/strconv.uint64pow10" .u64 Go.Lib.pow10Tab) :
    Calls Tryz.prog 98 #[.int .i64 a0] w (fun e w' => e = .returned (.string r) ∧ Hp noFP w w' []) := by
 have HS := Hp.start w
 have H := Aside0.mk h
 clear h
 unfold impl_Decimal.f at H
 go_enter Tryz.func98, Tryz.ntmps98
 replace H := zbind H; obtain ⟨t1, ht1, H⟩ := H
 obtain rfl := zsome H
 go_wp2_with (first | ((with_reducible refine gd 4 rfl ?_); refine ev_cl HS (strconv_Itoa.calls ht1.out (HS.keept hgT)) Tryz.func170 ?_; clear HS; (try clear F); intro wt1 HS F))
 go_ret
 exact HS.pk
/-! ### impl_shown: function 97 -/
def impl_shown.f (a0 : Int) : Option (ByteArray) := (if a0 < 0 then ((impl_Decimal.f 0).bind fun t2 => (some t2)) else ((impl_Decimal.f a0).bind fun t4 => (some t4)))
set_option maxHeartbeats 16000000 in
theorem impl_shown.calls {a0 : Int} {r : ByteArray} {w : World} (h : impl_shown.f a0 = some r) (hgT : Go.Lib.TabIs Tryz.prog w "internal/strconv.uint64pow10" .u64 Go.Lib.pow10Tab) :
    Calls Tryz.prog 97 #[.int .i64 a0] w (fun e w' => e = .returned (.string r) ∧ Hp noFP w w' []) := by
 have HS := Hp.start w
 have H := Aside0.mk h
 clear h
 unfold impl_shown.f at H
 go_enter Tryz.func97, Tryz.ntmps97
 replace H := zif H; rcases H with ⟨c1, H⟩ | ⟨c1, H⟩
 case inl =>
  replace H := zbind H; obtain ⟨t2, ht2, H⟩ := H
  obtain rfl := zsome H
  go_wp2_with (first | ((with_reducible refine gd 5 rfl ?_); refine ev_cl HS (impl_Decimal.calls ht2.out (HS.keept hgT)) Tryz.func98 ?_; clear HS; (try clear F); intro wt2 HS F))
  go_ret
  exact HS.pk
 replace H := zbind H; obtain ⟨t4, ht4, H⟩ := H
 obtain rfl := zsome H
 go_wp2_with (first | ((with_reducible refine gd 5 rfl ?_); refine ev_cl HS (impl_Decimal.calls ht4.out (HS.keept hgT)) Tryz.func98 ?_; clear HS; (try clear F); intro wt4 HS F))
 go_ret
 exact HS.pk
/-! ### impl_ShowReply: function 169 -/
def impl_ShowReply.l0 : Nat → ByteArray → Int → S221 → Option (ByteArray)
  | 0, _, _, _ => none
  | k + 1, x21, x22, a0 => (if x22 < (a0.f6.length : Int) then (if 0 ≤ x22 then (if x22 < (a0.f6.length : Int) then ((impl_shown.f ((rd_T273 a0.f6 x22).f0)).bind fun t13 => (if (⟨#[32]⟩ : ByteArray).size + t13.size ≤ 9223372036854775807 then (if ((⟨#[32]⟩ : ByteArray) ++ t13).size + (⟨#[47]⟩ : ByteArray).size ≤ 9223372036854775807 then ((impl_shown.f ((rd_T273 a0.f6 x22).f1)).bind fun t16 => (if (((⟨#[32]⟩ : ByteArray) ++ t13) ++ (⟨#[47]⟩ : ByteArray)).size + t16.size ≤ 9223372036854775807 then (if ((((⟨#[32]⟩ : ByteArray) ++ t13) ++ (⟨#[47]⟩ : ByteArray)) ++ t16).size + (⟨#[47]⟩ : ByteArray).size ≤ 9223372036854775807 then ((impl_Decimal.f ((rd_T273 a0.f6 x22).f2.length : Int)).bind fun t23 => (if (((((⟨#[32]⟩ : ByteArray) ++ t13) ++ (⟨#[47]⟩ : ByteArray)) ++ t16) ++ (⟨#[47]⟩ : ByteArray)).size + t23.size ≤ 9223372036854775807 then (if x21.size + ((((((⟨#[32]⟩ : ByteArray) ++ t13) ++ (⟨#[47]⟩ : ByteArray)) ++ t16) ++ (⟨#[47]⟩ : ByteArray)) ++ t23).size ≤ 9223372036854775807 then (impl_ShowReply.l0 k (x21 ++ ((((((⟨#[32]⟩ : ByteArray) ++ t13) ++ (⟨#[47]⟩ : ByteArray)) ++ t16) ++ (⟨#[47]⟩ : ByteArray)) ++ t23)) (wrap64 (x22 + 1)) a0) else none) else none)) else none) else none)) else none) else none)) else none) else none) else (if x21.size + (⟨#[10]⟩ : ByteArray).size ≤ 9223372036854775807 then (some (x21 ++ (⟨#[10]⟩ : ByteArray))) else none))
def impl_ShowReply.f (k : Nat) (a0 : S221) : Option (ByteArray) := ((impl_shown.f a0.f1).bind fun t8 => (if (⟨#[114, 101, 112, 108, 121, 32]⟩ : ByteArray).size + t8.size ≤ 9223372036854775807 then (if ((⟨#[114, 101, 112, 108, 121, 32]⟩ : ByteArray) ++ t8).size + (⟨#[32, 101, 114, 114, 111, 114, 32]⟩ : ByteArray).size ≤ 9223372036854775807 then ((impl_shown.f a0.f5).bind fun t11 => (if (((⟨#[114, 101, 112, 108, 121, 32]⟩ : ByteArray) ++ t8) ++ (⟨#[32, 101, 114, 114, 111, 114, 32]⟩ : ByteArray)).size + t11.size ≤ 9223372036854775807 then (impl_ShowReply.l0 k ((((⟨#[114, 101, 112, 108, 121, 32]⟩ : ByteArray) ++ t8) ++ (⟨#[32, 101, 114, 114, 111, 114, 32]⟩ : ByteArray)) ++ t11) 0 a0) else none)) else none) else none))
def impl_ShowReply.T1 : Bool × List (List Nat × List Nat) := (true, [([], []), ([0], [0]), ([1], [1]), ([2], [2]), ([3], [3]), ([], []), ([5], [5]), ([6, 2], [6]), ([4, 7], [4, 7]), ([8, 7, 0, 1, 2, 3, 4, 5, 6, 7, 8], [8])])
theorem impl_ShowReply.tT1 : rtab .any (opsOf Tryz.f169 1) = impl_ShowReply.T1 := by kernel_rfl
def impl_ShowReply.T5 : Bool × List (List Nat × List Nat) := (true, [([], []), ([], []), ([1], [1]), ([2], [2]), ([3], [3]), ([4], [4]), ([], []), ([6], [6]), ([7, 3], [7]), ([5, 8], [5, 8]), ([9], [9]), ([], []), ([11], [11]), ([12], [12]), ([13, 8], [13]), ([10, 14], [10, 14]), ([0, 15], [0, 15]), ([16, 14, 0, 1, 2, 3, 4, 5, 6, 7, 8, 9, 10, 11, 12, 13, 14, 15, 16], [0, 16])])
theorem impl_ShowReply.tT5 : rtab .any (opsOf Tryz.f169 5) = impl_ShowReply.T5 := by kernel_rfl
set_option maxHeartbeats 16000000 in
theorem impl_ShowReply.calls {k : Nat} {a0 : S221} {Ap0 : Option Addr} {np0 cp0 : Nat} {r : ByteArray} {w : World} (h : impl_ShowReply.f k a0 = some r) (gp0 : k273.C w Ap0 np0 a0.f6) (lp0 : np0 ≤ cp0) (hgT : Go.Lib.TabIs Tryz.prog w "internal/strconv.uint64pow10" .u64 Go.Lib.pow10Tab) :
    Calls Tryz.prog 169 #[.agg #[.string a0.f0, .int .i64 a0.f1, .int .i64 a0.f2, .int .i64 a0.f3, .int .i64 a0.f4, .int .i64 a0.f5, .slice Ap0 np0 cp0, .string a0.f7]] w (fun e w' => e = .returned (.string r) ∧ Hp noFP w w' []) := by
 obtain rfl := C_len gp0
 have HS := Hp.start w
 have H := Aside0.mk h
 clear h
 unfold impl_ShowReply.f at H
 go_enter Tryz.func169, Tryz.ntmps169
 go_wp2_with (first | ((with_reducible refine gd 1 rfl ?_); refine ev_bx HS ?_; clear HS; (try clear F); intro g1 w1 HS F))
 replace H := zbind H; obtain ⟨t8, ht8, H⟩ := H
 replace H := zgo H; obtain ⟨c9, H⟩ := H
 replace H := zgo H; obtain ⟨c10, H⟩ := H
 replace H := zbind H; obtain ⟨t11, ht11, H⟩ := H
 replace H := zgo H; obtain ⟨c12, H⟩ := H
 refine dr_start [] HS #[false, false, false, false, false, false, false, false, false, false] (by kernel_rfl) rfl rfl impl_ShowReply.tT1 (fun w4 HT HS HH => ?_)
 (try clear F)
 refine drq_of [(0, some 6), (1, some 7), (5, some 11), (6, some 12)] ?_
 repeat (first | refine drp HT ?_ | refine drt HT HH ?_)
 refine drq_end ?_
 refine dr1 2 HT fun K hK => ?_
 refine go_cl HS (impl_shown.calls ht8.out (HS.keept hgT)) Tryz.func97 ?_; clear HS; (try clear F); intro wt8 HS F
 refine nrm 8 hK ⟨_, HS⟩ (fun HH => ?_); clear hK K
 refine dr_pure 3 (some 9) HT (v := .string ((⟨#[114, 101, 112, 108, 121, 32]⟩ : ByteArray) ++ t8)) (a' := ?_) rfl rfl (by kernel_rfl) (fun _ _ _ h => h) (.inl ⟨by rfl, fun w' => (run_cat rfl rfl rfl (of_eq_true c9))⟩) ?_ ?_
 rotate_left
 · simp only [Act.put, ptn]; rfl
 refine dr_pure 4 (some 10) HT (v := .string (((⟨#[114, 101, 112, 108, 121, 32]⟩ : ByteArray) ++ t8) ++ (⟨#[32, 101, 114, 114, 111, 114, 32]⟩ : ByteArray))) (a' := ?_) rfl rfl (by kernel_rfl) (fun _ _ _ h => h) (.inl ⟨by rfl, fun w' => (run_cat rfl rfl rfl (of_eq_true c10))⟩) ?_ ?_
 rotate_left
 · simp only [Act.put, ptn]; rfl
 refine dr1 7 HT fun K hK => ?_
 refine go_cl HS (impl_shown.calls ht11.out (HS.keept hgT)) Tryz.func97 ?_; clear HS; (try clear F); intro wt11 HS F
 refine nrm 13 hK ⟨_, HS⟩ (fun HH => ?_); clear hK K
 refine dr_pure 8 (some 14) HT (v := .string ((((⟨#[114, 101, 112, 108, 121, 32]⟩ : ByteArray) ++ t8) ++ (⟨#[32, 101, 114, 114, 111, 114, 32]⟩ : ByteArray)) ++ t11)) (a' := ?_) rfl rfl (by kernel_rfl) (fun _ _ _ h => h) (.inl ⟨by rfl, fun w' => (run_cat rfl rfl rfl (of_eq_true c12))⟩) ?_ ?_
 rotate_left
 · simp only [Act.put, ptn]; rfl
 refine drq_of [(9, some 3)] ?_
 repeat (refine drp HT ?_)
 refine drq_end ?_
 refine done_ (done_of HT.out (by kernel_rfl)) ?_
 (try clear F)
 have F := HS.boxes; simp only [bxn] at F
 go_wp2
 go_loopg [3, 18] k (fun kq v_3 v_18 w' => ∃ (x21 : ByteArray) (x22 : Int), v_3 = .string x21 ∧ v_18 = .int .i64 x22 ∧ Aside0 (impl_ShowReply.l0 kq x21 x22 a0 = some r) ∧ Aside0 (kq ≤ k) ∧ Hp noFP w w' [.box g1 [.string a0.f0, .int .i64 a0.f1, .int .i64 a0.f2, .int .i64 a0.f3, .int .i64 a0.f4, .int .i64 a0.f5, .slice Ap0 a0.f6.length cp0, .string a0.f7] 221])
 case atStart => exact ⟨_, _, rfl, rfl, H, ⟨Nat.le_refl _⟩, HS⟩
 case round =>
  clear HS H; (try clear F)
  obtain ⟨x21, x22, rfl, rfl, H, HKk20, HS⟩ := hrel
  have F := HS.boxes; simp only [bxn] at F
  cases gk with
  | zero => exact absurd H.out (by simp [impl_ShowReply.l0])
  | succ k20 =>
   simp only [impl_ShowReply.l0] at H
   replace H := znif H; rcases H with ⟨c24, H⟩ | ⟨c24, H⟩
   case inl =>
    replace H := zgo H; obtain ⟨c35, H⟩ := H
    obtain rfl := zsome H
    go_wp2_with (first | ((with_reducible refine gd 41 rfl ?_); refine ev_val rfl (run_cat rfl rfl rfl (of_eq_true c35)) ?_))
    go_ret
    exact HS.pk
   replace H := zgo H; obtain ⟨c25, H⟩ := H
   replace H := zgo H; obtain ⟨c26, H⟩ := H
   obtain ⟨ad27, B27_2, d27_2, B27_3, d27_3, rfl, e27_0, e27_1, e27_2, e27_3, m27_2, y27_2, m27_3, y27_3⟩ := at_T273 gp0 x22 (of_eq_true c25) (of_eq_true c26)
   have e27_0_27 := (HS.keepc e27_0)
   have e27_1_27 := (HS.keepc e27_1)
   have e27_2_27 := (HS.keepc e27_2)
   have e27_3_27 := (HS.keepc e27_3)
   go_wp2_with (first | ((with_reducible refine gd 5 rfl ?_); refine ev_bx HS ?_; clear HS; (try clear F); intro g5 w5 HS F) | ((with_reducible refine gate_store (p := 5) rfl ?_); refine ev_st 1 0 HS (seg := [.int .i64 ((rd_T273 a0.f6 x22).f0), .int .i64 ((rd_T273 a0.f6 x22).f1), .slice B27_2 (rd_T273 a0.f6 x22).f2.length d27_2, .slice B27_3 (rd_T273 a0.f6 x22).f3.length d27_3]) ?_; clear HS; (try clear F); intro w30 HS F))
   replace H := zbind H; obtain ⟨t13, ht13, H⟩ := H
   replace H := zgo H; obtain ⟨c14, H⟩ := H
   replace H := zgo H; obtain ⟨c15, H⟩ := H
   replace H := zbind H; obtain ⟨t16, ht16, H⟩ := H
   replace H := zgo H; obtain ⟨c17, H⟩ := H
   replace H := zgo H; obtain ⟨c19, H⟩ := H
   replace H := zbind H; obtain ⟨t23, ht23, H⟩ := H
   replace H := zgo H; obtain ⟨c28, H⟩ := H
   replace H := zgo H; obtain ⟨c29, H⟩ := H
   refine dr_start [] HS #[false, false, false, false, false, false, false, false, false, false, false, false, false, false, false, false, false, false] (by kernel_rfl) rfl rfl impl_ShowReply.tT5 (fun w33 HT HS HH => ?_)
   (try clear F)
   refine drq_of [(0, some 22), (1, some 23), (2, some 24), (6, some 28), (7, some 29), (11, some 33), (12, some 34), (13, some 35)] ?_
   repeat (first | refine drp HT ?_ | refine drt HT HH ?_)
   refine drq_end ?_
   refine dr1 3 HT fun K hK => ?_
   refine go_cl HS (impl_shown.calls ht13.out (HS.keept hgT)) Tryz.func97 ?_; clear HS; (try clear F); intro wt13 HS F
   refine nrm 25 hK ⟨_, HS⟩ (fun HH => ?_); clear hK K
   refine dr_pure 4 (some 26) HT (v := .string ((⟨#[32]⟩ : ByteArray) ++ t13)) (a' := ?_) rfl rfl (by kernel_rfl) (fun _ _ _ h => h) (.inl ⟨by rfl, fun w' => (run_cat rfl rfl rfl (of_eq_true c14))⟩) ?_ ?_
   rotate_left
   · simp only [Act.put, ptn]; rfl
   refine dr_pure 5 (some 27) HT (v := .string (((⟨#[32]⟩ : ByteArray) ++ t13) ++ (⟨#[47]⟩ : ByteArray))) (a' := ?_) rfl rfl (by kernel_rfl) (fun _ _ _ h => h) (.inl ⟨by rfl, fun w' => (run_cat rfl rfl rfl (of_eq_true c15))⟩) ?_ ?_
   rotate_left
   · simp only [Act.put, ptn]; rfl
   refine dr1 8 HT fun K hK => ?_
   refine go_cl HS (impl_shown.calls ht16.out (HS.keept hgT)) Tryz.func97 ?_; clear HS; (try clear F); intro wt16 HS F
   refine nrm 30 hK ⟨_, HS⟩ (fun HH => ?_); clear hK K
   refine dr_pure 9 (some 31) HT (v := .string ((((⟨#[32]⟩ : ByteArray) ++ t13) ++ (⟨#[47]⟩ : ByteArray)) ++ t16)) (a' := ?_) rfl rfl (by kernel_rfl) (fun _ _ _ h => h) (.inl ⟨by rfl, fun w' => (run_cat rfl rfl rfl (of_eq_true c17))⟩) ?_ ?_
   rotate_left
   · simp only [Act.put, ptn]; rfl
   refine dr_pure 10 (some 32) HT (v := .string (((((⟨#[32]⟩ : ByteArray) ++ t13) ++ (⟨#[47]⟩ : ByteArray)) ++ t16) ++ (⟨#[47]⟩ : ByteArray))) (a' := ?_) rfl rfl (by kernel_rfl) (fun _ _ _ h => h) (.inl ⟨by rfl, fun w' => (run_cat rfl rfl rfl (of_eq_true c19))⟩) ?_ ?_
   rotate_left
   · simp only [Act.put, ptn]; rfl
   refine dr1 14 HT fun K hK => ?_
   refine go_cl HS (impl_Decimal.calls ht23.out (HS.keept hgT)) Tryz.func98 ?_; clear HS; (try clear F); intro wt23 HS F
   refine nrm 36 hK ⟨_, HS⟩ (fun HH => ?_); clear hK K
   refine dr_pure 15 (some 37) HT (v := .string ((((((⟨#[32]⟩ : ByteArray) ++ t13) ++ (⟨#[47]⟩ : ByteArray)) ++ t16) ++ (⟨#[47]⟩ : ByteArray)) ++ t23)) (a' := ?_) rfl rfl (by kernel_rfl) (fun _ _ _ h => h) (.inl ⟨by rfl, fun w' => (run_cat rfl rfl rfl (of_eq_true c28))⟩) ?_ ?_
   rotate_left
   · simp only [Act.put, ptn]; rfl
   refine dr_pure 16 (some 38) HT (v := .string (x21 ++ ((((((⟨#[32]⟩ : ByteArray) ++ t13) ++ (⟨#[47]⟩ : ByteArray)) ++ t16) ++ (⟨#[47]⟩ : ByteArray)) ++ t23))) (a' := ?_) rfl rfl (by kernel_rfl) (fun _ _ _ h => h) (.inl ⟨by rfl, fun w' => (run_cat rfl rfl rfl (of_eq_true c29))⟩) ?_ ?_
   rotate_left
   · simp only [Act.put, ptn]; rfl
   refine drq_of [(17, some 3)] ?_
   repeat (refine drp HT ?_)
   refine drq_end ?_
   refine done_ (done_of HT.out (by kernel_rfl)) ?_
   (try clear F)
   have F := HS.boxes; simp only [bxn] at F
   go_wp2
   go_roundg k20
   case measure => have := HKk20.out; omega
   case rel => exact ⟨_, _, rfl, rfl, H, ⟨by have := HKk20.out; omega⟩, HS.pick [0] (by decide) (by rfl)⟩
/-! ### impl_ShowClient: function 96 -/
def impl_ShowClient.l0 : Nat → ByteArray → Int → S65 → Option (ByteArray)
  | 0, _, _, _ => none
  | k + 1, x20, x21, a0 => (if x21 < (a0.f3.length : Int) then (if 0 ≤ x21 then (if x21 < (a0.f3.length : Int) then ((impl_ShowReply.f k (⟨(rd_T223 a0.f3 x21).f1.f0, (rd_T223 a0.f3 x21).f1.f1, (rd_T223 a0.f3 x21).f1.f2, (rd_T223 a0.f3 x21).f1.f3, (rd_T223 a0.f3 x21).f1.f4, (rd_T223 a0.f3 x21).f1.f5, (rd_T223 a0.f3 x21).f1.f6, (rd_T223 a0.f3 x21).f1.f7⟩ : S221)).bind fun t31 => (if x20.size + t31.size ≤ 9223372036854775807 then (impl_ShowClient.l0 k (x20 ++ t31) (wrap64 (x21 + 1)) a0) else none)) else none) else none) else (some x20))
def impl_ShowClient.f (k : Nat) (a0 : S65) : Option (ByteArray) := ((impl_Decimal.f (a0.f2.length : Int)).bind fun t8 => (if (⟨#[119, 97, 105, 116, 115, 32]⟩ : ByteArray).size + t8.size ≤ 9223372036854775807 then (if ((⟨#[119, 97, 105, 116, 115, 32]⟩ : ByteArray) ++ t8).size + (⟨#[32, 108, 97, 116, 101, 32]⟩ : ByteArray).size ≤ 9223372036854775807 then ((impl_Decimal.f (a0.f4.length : Int)).bind fun t11 => (if (((⟨#[119, 97, 105, 116, 115, 32]⟩ : ByteArray) ++ t8) ++ (⟨#[32, 108, 97, 116, 101, 32]⟩ : ByteArray)).size + t11.size ≤ 9223372036854775807 then (if ((((⟨#[119, 97, 105, 116, 115, 32]⟩ : ByteArray) ++ t8) ++ (⟨#[32, 108, 97, 116, 101, 32]⟩ : ByteArray)) ++ t11).size + (⟨#[10]⟩ : ByteArray).size ≤ 9223372036854775807 then (impl_ShowClient.l0 k (((((⟨#[119, 97, 105, 116, 115, 32]⟩ : ByteArray) ++ t8) ++ (⟨#[32, 108, 97, 116, 101, 32]⟩ : ByteArray)) ++ t11) ++ (⟨#[10]⟩ : ByteArray)) 0 a0) else none) else none)) else none) else none))
def impl_ShowClient.T1 : Bool × List (List Nat × List Nat) := (true, [([], []), ([0], [0]), ([1], [1]), ([2], [2]), ([3], [3]), ([4], [4]), ([], []), ([6], [6]), ([7], [7]), ([8, 3], [8]), ([5, 9], [5, 9]), ([10], [10]), ([11, 9, 0, 1, 2, 3, 4, 5, 6, 7, 8, 9, 10, 11], [11])])
theorem impl_ShowClient.tT1 : rtab .any (opsOf Tryz.f96 1) = impl_ShowClient.T1 := by kernel_rfl
set_option maxHeartbeats 16000000 in
theorem impl_ShowClient.calls {k : Nat} {a0 : S65} {Ap0 : Option Addr} {np0 cp0 : Nat} {Ap1 : Option Addr} {np1 cp1 : Nat} {Ap2 : Option Addr} {np2 cp2 : Nat} {r : ByteArray} {w : World} (h : impl_ShowClient.f k a0 = some r) (gp0 : k274.C w Ap0 np0 a0.f2) (lp0 : np0 ≤ cp0) (gp1 : k223.C w Ap1 np1 a0.f3) (lp1 : np1 ≤ cp1) (gp2 : (Kd.int .i64).C w Ap2 np2 a0.f4) (lp2 : np2 ≤ cp2) (hgT : Go.Lib.TabIs Tryz.prog w "internal/strconv.uint64pow10" .u64 Go.Lib.pow10Tab) :
    Calls Tryz.prog 96 #[.agg #[.string a0.f0, .int .i64 a0.f1, .slice Ap0 np0 cp0, .slice Ap1 np1 cp1, .slice Ap2 np2 cp2]] w (fun e w' => e = .returned (.string r) ∧ Hp noFP w w' []) := by
 obtain rfl := C_len gp0
 obtain rfl := C_len gp1
 obtain rfl := C_len gp2
 have HS := Hp.start w
 have H := Aside0.mk h
 clear h
 unfold impl_ShowClient.f at H
 go_enter Tryz.func96, Tryz.ntmps96
 go_wp2_with (first | ((with_reducible refine gd 1 rfl ?_); refine ev_bx HS ?_; clear HS; (try clear F); intro g1 w1 HS F))
 replace H := zbind H; obtain ⟨t8, ht8, H⟩ := H
 replace H := zgo H; obtain ⟨c9, H⟩ := H
 replace H := zgo H; obtain ⟨c10, H⟩ := H
 replace H := zbind H; obtain ⟨t11, ht11, H⟩ := H
 replace H := zgo H; obtain ⟨c12, H⟩ := H
 replace H := zgo H; obtain ⟨c13, H⟩ := H
 refine dr_start [] HS #[false, false, false, false, false, false, false, false, false, false, false, false, false] (by kernel_rfl) rfl rfl impl_ShowClient.tT1 (fun w4 HT HS HH => ?_)
 (try clear F)
 refine drq_of [(0, some 6), (1, some 7), (2, some 8), (6, some 12), (7, some 13), (8, some 14)] ?_
 repeat (first | refine drp HT ?_ | refine drt HT HH ?_)
 refine drq_end ?_
 refine dr1 3 HT fun K hK => ?_
 refine go_cl HS (impl_Decimal.calls ht8.out (HS.keept hgT)) Tryz.func98 ?_; clear HS; (try clear F); intro wt8 HS F
 refine nrm 9 hK ⟨_, HS⟩ (fun HH => ?_); clear hK K
 refine dr_pure 4 (some 10) HT (v := .string ((⟨#[119, 97, 105, 116, 115, 32]⟩ : ByteArray) ++ t8)) (a' := ?_) rfl rfl (by kernel_rfl) (fun _ _ _ h => h) (.inl ⟨by rfl, fun w' => (run_cat rfl rfl rfl (of_eq_true c9))⟩) ?_ ?_
 rotate_left
 · simp only [Act.put, ptn]; rfl
 refine dr_pure 5 (some 11) HT (v := .string (((⟨#[119, 97, 105, 116, 115, 32]⟩ : ByteArray) ++ t8) ++ (⟨#[32, 108, 97, 116, 101, 32]⟩ : ByteArray))) (a' := ?_) rfl rfl (by kernel_rfl) (fun _ _ _ h => h) (.inl ⟨by rfl, fun w' => (run_cat rfl rfl rfl (of_eq_true c10))⟩) ?_ ?_
 rotate_left
 · simp only [Act.put, ptn]; rfl
 refine dr1 9 HT fun K hK => ?_
 refine go_cl HS (impl_Decimal.calls ht11.out (HS.keept hgT)) Tryz.func98 ?_; clear HS; (try clear F); intro wt11 HS F
 refine nrm 15 hK ⟨_, HS⟩ (fun HH => ?_); clear hK K
 refine dr_pure 10 (some 16) HT (v := .string ((((⟨#[119, 97, 105, 116, 115, 32]⟩ : ByteArray) ++ t8) ++ (⟨#[32, 108, 97, 116, 101, 32]⟩ : ByteArray)) ++ t11)) (a' := ?_) rfl rfl (by kernel_rfl) (fun _ _ _ h => h) (.inl ⟨by rfl, fun w' => (run_cat rfl rfl rfl (of_eq_true c12))⟩) ?_ ?_
 rotate_left
 · simp only [Act.put, ptn]; rfl
 refine dr_pure 11 (some 17) HT (v := .string (((((⟨#[119, 97, 105, 116, 115, 32]⟩ : ByteArray) ++ t8) ++ (⟨#[32, 108, 97, 116, 101, 32]⟩ : ByteArray)) ++ t11) ++ (⟨#[10]⟩ : ByteArray))) (a' := ?_) rfl rfl (by kernel_rfl) (fun _ _ _ h => h) (.inl ⟨by rfl, fun w' => (run_cat rfl rfl rfl (of_eq_true c13))⟩) ?_ ?_
 rotate_left
 · simp only [Act.put, ptn]; rfl
 refine drq_of [(12, some 3)] ?_
 repeat (refine drp HT ?_)
 refine drq_end ?_
 refine done_ (done_of HT.out (by kernel_rfl)) ?_
 (try clear F)
 have F := HS.boxes; simp only [bxn] at F
 go_wp2
 go_loopg [3, 21] k (fun kq v_3 v_21 w' => ∃ (x20 : ByteArray) (x21 : Int), v_3 = .string x20 ∧ v_21 = .int .i64 x21 ∧ Aside0 (impl_ShowClient.l0 kq x20 x21 a0 = some r) ∧ Aside0 (kq ≤ k) ∧ Hp noFP w w' [.box g1 [.string a0.f0, .int .i64 a0.f1, .slice Ap0 a0.f2.length cp0, .slice Ap1 a0.f3.length cp1, .slice Ap2 a0.f4.length cp2] 65])
 case atStart => exact ⟨_, _, rfl, rfl, H, ⟨Nat.le_refl _⟩, HS⟩
 case round =>
  clear HS H; (try clear F)
  obtain ⟨x20, x21, rfl, rfl, H, HKk19, HS⟩ := hrel
  have F := HS.boxes; simp only [bxn] at F
  cases gk with
  | zero => exact absurd H.out (by simp [impl_ShowClient.l0])
  | succ k19 =>
   simp only [impl_ShowClient.l0] at H
   replace H := znif H; rcases H with ⟨c23, H⟩ | ⟨c23, H⟩
   case inl =>
    obtain rfl := zsome H
    go_wp2
    go_ret
    exact HS.pk
   replace H := zgo H; obtain ⟨c24, H⟩ := H
   replace H := zgo H; obtain ⟨c25, H⟩ := H
   obtain ⟨ad26, B26_7, d26_7, rfl, e26_0, e26_1, e26_2, e26_3, e26_4, e26_5, e26_6, e26_7, e26_8, m26_7, y26_7⟩ := at_T223 gp1 x21 (of_eq_true c24) (of_eq_true c25)
   have e26_0_26 := (HS.keepc e26_0)
   have e26_1_26 := (HS.keepc e26_1)
   have e26_2_26 := (HS.keepc e26_2)
   have e26_3_26 := (HS.keepc e26_3)
   have e26_4_26 := (HS.keepc e26_4)
   have e26_5_26 := (HS.keepc e26_5)
   have e26_6_26 := (HS.keepc e26_6)
   have e26_7_26 := (HS.keepc e26_7)
   have e26_8_26 := (HS.keepc e26_8)
   replace H := zbind H; obtain ⟨t31, ht31, H⟩ := H
   replace H := zgo H; obtain ⟨c33, H⟩ := H
   go_wp2_with (first | ((with_reducible refine gd 5 rfl ?_); refine ev_bx HS ?_; clear HS; (try clear F); intro g5 w5 HS F) | ((with_reducible refine gate_store (p := 5) rfl ?_); refine ev_st 1 0 HS (seg := [.int .i64 ((rd_T223 a0.f3 x21).f0), .string ((rd_T223 a0.f3 x21).f1.f0), .int .i64 ((rd_T223 a0.f3 x21).f1.f1), .int .i64 ((rd_T223 a0.f3 x21).f1.f2), .int .i64 ((rd_T223 a0.f3 x21).f1.f3), .int .i64 ((rd_T223 a0.f3 x21).f1.f4), .int .i64 ((rd_T223 a0.f3 x21).f1.f5), .slice B26_7 (rd_T223 a0.f3 x21).f1.f6.length d26_7, .string ((rd_T223 a0.f3 x21).f1.f7)]) ?_; clear HS; (try clear F); intro w29 HS F) | ((with_reducible refine gd 28 rfl ?_); refine ev_cl HS (impl_ShowReply.calls ht31.out (HS.ro y26_7) m26_7 (HS.keept hgT)) Tryz.func169 ?_; clear HS; (try clear F); intro wt31 HS F) | ((with_reducible refine gd 29 rfl ?_); refine ev_val rfl (run_cat rfl rfl rfl (of_eq_true c33)) ?_))
   go_roundg k19
   case measure => have := HKk19.out; omega
   case rel => exact ⟨_, _, rfl, rfl, H, ⟨by have := HKk19.out; omega⟩, HS.pick [0] (by decide) (by rfl)⟩
end Go.Proofs.YtacocpknielofaaGreatDoor.F
