/- Functions of the program and of the law, and that their calls do what is written here. -/
import Derived.Test.YtacocpknielofaaGreatDoorZgFnExactServerOkb
import Derived.Test.YtacocpknielofaaGreatDoorZgFnExactStoreOkf
import Derived.Test.YtacocpknielofaaGreatDoorZgFnExactStoreOkg
import Derived.Test.YtacocpknielofaaGreatDoorZgFnExactStoreOkk
namespace Go.Proofs.YtacocpknielofaaGreatDoor.F
open Go.RowKit Go.Proofs.YtacocpknielofaaGreatDoorW.PrintWords Go.Proofs.YtacocpknielofaaGreatDoorW.PrintLast Go.Proofs.YtacocpknielofaaGreatDoorW.PrintMore Go.Proofs.YtacocpknielofaaGreatDoor.Z
attribute [local go_sem] max2_int min2_int max_two min_two max_three min_three max_four min_four
set_option linter.unusedVariables false
set_option linter.unusedSimpArgs false
set_option maxRecDepth 100000
/-! ### laws_toPlanS: function 76 -/
def laws_toPlanS.l0 : Nat → (List S202) → Int → (List S196) → Option ((List S202))
  | 0, _, _, _ => none
  | k + 1, l22, x24, a0 => (if x24 < (a0.length : Int) then (if 0 ≤ x24 then (if x24 < (a0.length : Int) then ((laws_toPlan.f k (rd_T196 a0 x24)).bind fun t30 => (laws_toPlanS.l0 k (l22.set (x24).toNat t30) (wrap64 (x24 + 1)) a0)) else none) else none) else (some l22))
def laws_toPlanS.f (k : Nat) (a0 : (List S196)) : Option ((List S202)) := (if 0 ≤ (a0.length : Int) then (if ((a0.length : Int)).toNat ≤ 3518437208883 then (laws_toPlanS.l0 k (List.replicate a0.length z202) 0 a0) else none) else none)
set_option maxHeartbeats 16000000 in
theorem laws_toPlanS.calls {k : Nat} {a0 : (List S196)} {Ap0 : Option Addr} {np0 cp0 : Nat} {r : (List S202)} {w : World} (h : laws_toPlanS.f k a0 = some r) (gp0 : k196.C w Ap0 np0 a0) (lp0 : np0 ≤ cp0) :
    Calls Tryz.prog 76 #[.slice Ap0 np0 cp0] w (fun e w' => ∃ v0_ : Value, e = .returned (v0_) ∧ Hp noFP w w' [.own (Zd.slice 202 q202) r [v0_]]) := by
 obtain rfl := C_len gp0
 have HS := Hp.start w
 have H := Aside0.mk h
 clear h
 unfold laws_toPlanS.f at H
 go_enter Tryz.func76, Tryz.ntmps76
 obtain ⟨c1, H⟩ := zgo H
 obtain ⟨c2, H⟩ := zgo H
 go_wp2_with (first | ((with_reducible refine gate_dst (N := 7) rfl ?_); refine ev_make rfl q202 z202 HS rfl (a0.length : Int) rfl rfl Tryz.underlying43 info202 rfl (by decide) (by decide) q202_zero (of_eq_true c1) (by have := of_eq_true c2; omega) ?_; clear HS; (try clear F); intro v3 w3 HS; obtain ⟨B3, d3, rfl, m3⟩ := HS.formn a0.length 0 rfl (by first | rfl | simp); (try simp only [hpn, hpm] at HS)))
 go_loopg [4] k (fun kq v_4 w' => ∃ (l22 : List S202) (x24 : Int), v_4 = .int .i64 x24 ∧ Aside0 (laws_toPlanS.l0 kq l22 x24 a0 = some r) ∧ Aside0 (kq ≤ k) ∧ Hp noFP w w' [.own (Zd.slice 202 q202) l22 [.slice B3 a0.length d3]])
 case atStart => exact ⟨_, _, rfl, H, ⟨Nat.le_refl _⟩, HS⟩
 case round =>
  clear HS H; (try clear F)
  obtain ⟨l22, x24, rfl, H, HKk21, HS⟩ := hrel
  cases gk with
  | zero => exact absurd H.out (by simp [laws_toPlanS.l0])
  | succ k21 =>
   simp only [laws_toPlanS.l0] at H
   by_cases c26 : x24 < (a0.length : Int)
   case neg =>
    replace H := zneg c26 H
    replace c26 := eq_false c26
    obtain rfl := zsome H
    go_wp2
    exact bodyPost_ret (results_single rfl (.tmp .nil)) rfl ⟨_, rfl, HS.pick [0] (by decide) (by rfl)⟩
   replace H := zpos c26 H
   replace c26 := eq_true c26
   obtain ⟨c27, H⟩ := zgo H
   obtain ⟨c28, H⟩ := zgo H
   obtain ⟨ad29, B29_1, d29_1, B29_3, d29_3, rfl, e29_0, e29_1, e29_2, e29_3, e29_4, e29_5, e29_6, m29_1, y29_1, m29_3, y29_3⟩ := at_T196 gp0 x24 (of_eq_true c27) (of_eq_true c28)
   have e29_0_29 := (HS.keepc e29_0)
   have e29_1_29 := (HS.keepc e29_1)
   have e29_2_29 := (HS.keepc e29_2)
   have e29_3_29 := (HS.keepc e29_3)
   have e29_4_29 := (HS.keepc e29_4)
   have e29_5_29 := (HS.keepc e29_5)
   have e29_6_29 := (HS.keepc e29_6)
   replace H := zbind H; obtain ⟨t30, ht30, H⟩ := H
   go_wp2_with (first | ((with_reducible refine gate_dst (N := 20) rfl ?_); refine ev_call rfl Tryz.func154 (by kernel_rfl) rfl #[.agg #[.int .i64 ((rd_T196 a0 x24).f0), .slice B29_1 (rd_T196 a0 x24).f1.length d29_1, .int .i64 ((rd_T196 a0 x24).f2.f0), .slice B29_3 (rd_T196 a0 x24).f2.f1.length d29_3, .bool ((rd_T196 a0 x24).f2.f2), .bool ((rd_T196 a0 x24).f2.f3), .int .i64 ((rd_T196 a0 x24).f2.f4)]] rfl (by simp only [mpn]; rfl) ?_; refine (laws_toPlan.calls ht30.out (HS.ro y29_1) m29_1 (HS.ro y29_3) m29_3).mono ?_; rintro _ wt30 ⟨v31, v32, rfl, HQ⟩; refine ⟨_, rfl, ?_⟩; replace HS := HS.call HQ; clear HQ; (try clear F); obtain ⟨B31, d31, rfl, m31⟩ := HS.form 1 rfl; obtain ⟨B32, d32, rfl, m32⟩ := HS.form 2 rfl; (try simp only [hpn, hpm] at HS); obtain ⟨ad34, B34_1, d34_1, B34_3, d34_3, rfl, e34_0, e34_1, e34_2, e34_3, e34_4, e34_5, e34_6, m34_1, y34_1, m34_3, y34_3⟩ := at_T202 (HS.rd 0 rfl) x24 (of_eq_true c27) (of_eq_true c28)) | ((with_reducible refine gate_store (p := 21) rfl ?_); refine ev_set rfl q202 0 [1, 2] x24 t30 HS (seg := [.int .i64 t30.f0, .slice B31 t30.f1.length d31, .int .i64 t30.f2.f0, .slice B32 t30.f2.f1.length d32, .bool t30.f2.f2, .bool t30.f2.f3, .int .i64 t30.f2.f4]) rfl (by decide) rfl rfl rfl (by first | rfl | exact (Nat.mul_one _).symm) rfl rfl (by kernel_rfl) (by simp [Value.oneCell']) ⟨of_eq_true c27, of_eq_true c28⟩ rfl (fun S hd hh => q202_pack (x := t30) hd (hh 1 (.own (Zd.slice 3 (Zd.int .i64)) t30.f1 [.slice B31 t30.f1.length d31]) rfl) (hh 2 (.own (Zd.slice 3 (Zd.int .i64)) t30.f2.f1 [.slice B32 t30.f2.f1.length d32]) rfl) (by decide)) ?_; clear HS; (try clear F); intro w35 HS; (try simp only [hpn, hpm] at HS)))
   go_roundg k21
   case measure => have := HKk21.out; omega
   case rel => exact ⟨_, _, rfl, H, ⟨by have := HKk21.out; omega⟩, HS.pick [0] (by decide) (by rfl)⟩
/-! ### laws_toKept: function 155 -/
def laws_toKept.f (a0 : S199) : Option (S205) := (some (⟨a0.f0, a0.f1, a0.f2⟩ : S205))
set_option maxHeartbeats 16000000 in
theorem laws_toKept.calls {a0 : S199} {r : S205} {w : World} (h : laws_toKept.f a0 = some r) :
    Calls Tryz.prog 155 #[.agg #[.string a0.f0, .string a0.f1, .int .i64 a0.f2]] w (fun e w' => e = .returned (.agg #[.string r.f0, .string r.f1, .int .i64 r.f2]) ∧ Hp noFP w w' []) := by
 have HS := Hp.start w
 have H := Aside0.mk h
 clear h
 unfold laws_toKept.f at H
 go_enter Tryz.func155, Tryz.ntmps155
 obtain rfl := zsome H
 go_wp2_with (first | ((with_reducible refine gate_dst (N := 1) rfl ?_); refine ev_bx HS ?_; clear HS; (try clear F); intro g1 w1 HS F) | ((with_reducible refine gate_dst (N := 2) rfl ?_); refine ev_bx HS ?_; clear HS; (try clear F); intro g2 w2 HS F) | ((with_reducible refine gate_dst (N := 3) rfl ?_); refine ev_bx HS ?_; clear HS; (try clear F); intro g3 w3 HS F) | ((with_reducible refine gate_store (p := 6) rfl ?_); refine ev_st 2 0 HS (seg := [.string a0.f0]) ?_; clear HS; (try clear F); intro w7 HS F) | ((with_reducible refine gate_store (p := 9) rfl ?_); refine ev_st 2 1 HS (seg := [.string a0.f1]) ?_; clear HS; (try clear F); intro w9 HS F) | ((with_reducible refine gate_store (p := 12) rfl ?_); refine ev_st 2 2 HS (seg := [.int .i64 a0.f2]) ?_; clear HS; (try clear F); intro w11 HS F) | ((with_reducible refine gate_store (p := 2) rfl ?_); refine ev_st 1 0 HS (seg := [.string a0.f0, .string a0.f1, .int .i64 a0.f2]) ?_; clear HS; (try clear F); intro w13 HS F))
 exact bodyPost_ret (results_single rfl (.cell _ _ _ _ _ rfl (HS.boxAt (i := 1) rfl) Tryz.underlying205 rfl (by kernel_rfl) .nil)) rfl ⟨rfl, HS.pick [] (by decide) (by rfl)⟩
/-! ### laws_toKeptS: function 77 -/
def laws_toKeptS.l0 : Nat → (List S205) → Int → (List S199) → Option ((List S205))
  | 0, _, _, _ => none
  | k + 1, l20, x22, a0 => (if x22 < (a0.length : Int) then (if 0 ≤ x22 then (if x22 < (a0.length : Int) then ((laws_toKept.f (rd_T199 a0 x22)).bind fun t28 => (laws_toKeptS.l0 k (l20.set (x22).toNat t28) (wrap64 (x22 + 1)) a0)) else none) else none) else (some l20))
def laws_toKeptS.f (k : Nat) (a0 : (List S199)) : Option ((List S205)) := (if 0 ≤ (a0.length : Int) then (if ((a0.length : Int)).toNat ≤ 7036874417766 then (laws_toKeptS.l0 k (List.replicate a0.length z205) 0 a0) else none) else none)
set_option maxHeartbeats 16000000 in
theorem laws_toKeptS.calls {k : Nat} {a0 : (List S199)} {Ap0 : Option Addr} {np0 cp0 : Nat} {r : (List S205)} {w : World} (h : laws_toKeptS.f k a0 = some r) (gp0 : k199.C w Ap0 np0 a0) (lp0 : np0 ≤ cp0) :
    Calls Tryz.prog 77 #[.slice Ap0 np0 cp0] w (fun e w' => ∃ v0_ : Value, e = .returned (v0_) ∧ Hp noFP w w' [.own (Zd.slice 205 q205) r [v0_]]) := by
 obtain rfl := C_len gp0
 have HS := Hp.start w
 have H := Aside0.mk h
 clear h
 unfold laws_toKeptS.f at H
 go_enter Tryz.func77, Tryz.ntmps77
 obtain ⟨c1, H⟩ := zgo H
 obtain ⟨c2, H⟩ := zgo H
 go_wp2_with (first | ((with_reducible refine gate_dst (N := 7) rfl ?_); refine ev_make rfl q205 z205 HS rfl (a0.length : Int) rfl rfl Tryz.underlying44 info205 rfl (by decide) (by decide) q205_zero (of_eq_true c1) (by have := of_eq_true c2; omega) ?_; clear HS; (try clear F); intro v3 w3 HS; obtain ⟨B3, d3, rfl, m3⟩ := HS.formn a0.length 0 rfl (by first | rfl | simp); (try simp only [hpn, hpm] at HS)))
 go_loopg [4] k (fun kq v_4 w' => ∃ (l20 : List S205) (x22 : Int), v_4 = .int .i64 x22 ∧ Aside0 (laws_toKeptS.l0 kq l20 x22 a0 = some r) ∧ Aside0 (kq ≤ k) ∧ Hp noFP w w' [.own (Zd.slice 205 q205) l20 [.slice B3 a0.length d3]])
 case atStart => exact ⟨_, _, rfl, H, ⟨Nat.le_refl _⟩, HS⟩
 case round =>
  clear HS H; (try clear F)
  obtain ⟨l20, x22, rfl, H, HKk19, HS⟩ := hrel
  cases gk with
  | zero => exact absurd H.out (by simp [laws_toKeptS.l0])
  | succ k19 =>
   simp only [laws_toKeptS.l0] at H
   by_cases c24 : x22 < (a0.length : Int)
   case neg =>
    replace H := zneg c24 H
    replace c24 := eq_false c24
    obtain rfl := zsome H
    go_wp2
    exact bodyPost_ret (results_single rfl (.tmp .nil)) rfl ⟨_, rfl, HS.pick [0] (by decide) (by rfl)⟩
   replace H := zpos c24 H
   replace c24 := eq_true c24
   obtain ⟨c25, H⟩ := zgo H
   obtain ⟨c26, H⟩ := zgo H
   obtain ⟨ad27, rfl, e27_0, e27_1, e27_2⟩ := at_T199 gp0 x22 (of_eq_true c25) (of_eq_true c26)
   have e27_0_27 := (HS.keepc e27_0)
   have e27_1_27 := (HS.keepc e27_1)
   have e27_2_27 := (HS.keepc e27_2)
   replace H := zbind H; obtain ⟨t28, ht28, H⟩ := H
   go_wp2_with (first | ((with_reducible refine gate_dst (N := 20) rfl ?_); refine ev_cl HS (laws_toKept.calls ht28.out) Tryz.func155 ?_; clear HS; (try clear F); intro wt28 HS F; obtain ⟨ad30, rfl, e30_0, e30_1, e30_2⟩ := at_T205 (HS.rd 0 rfl) x22 (of_eq_true c25) (of_eq_true c26)) | ((with_reducible refine gate_store (p := 21) rfl ?_); refine ev_set rfl q205 0 [] x22 t28 HS (seg := [.string t28.f0, .string t28.f1, .int .i64 t28.f2]) rfl (by decide) rfl rfl rfl (by first | rfl | exact (Nat.mul_one _).symm) rfl rfl (by kernel_rfl) (by simp [Value.oneCell']) ⟨of_eq_true c25, of_eq_true c26⟩ rfl (made_flat (fun _ => q205_flat _ _ _)) ?_; clear HS; (try clear F); intro w31 HS; (try simp only [hpn, hpm] at HS)))
   go_roundg k19
   case measure => have := HKk19.out; omega
   case rel => exact ⟨_, _, rfl, H, ⟨by have := HKk19.out; omega⟩, HS.pick [0] (by decide) (by rfl)⟩
/-! ### laws_toServer: function 18 -/
def laws_toServer.f (k : Nat) (a0 : S40) : Option (S46) := ((laws_toStore.f k a0.f0).bind fun t7 => ((laws_toPlanS.f k a0.f1).bind fun t14 => ((laws_toKeptS.f k a0.f5).bind fun t25 => (some (⟨(⟨t7.f0, t7.f1, t7.f2⟩ : S33), t14, a0.f2, a0.f3, a0.f4, t25⟩ : S46)))))
set_option maxHeartbeats 16000000 in
theorem laws_toServer.calls {k : Nat} {a0 : S40} {Ap0 : Option Addr} {np0 cp0 : Nat} {Ap1 : Option Addr} {np1 cp1 : Nat} {Ap2 : Option Addr} {np2 cp2 : Nat} {Ap3 : Option Addr} {np3 cp3 : Nat} {Ap4 : Option Addr} {np4 cp4 : Nat} {r : S46} {w : World} (h : laws_toServer.f k a0 = some r) (gp0 : k88.C w Ap0 np0 a0.f0.f0) (lp0 : np0 ≤ cp0) (gp1 : k75.C w Ap1 np1 a0.f0.f1) (lp1 : np1 ≤ cp1) (gp2 : k178.C w Ap2 np2 a0.f0.f2) (lp2 : np2 ≤ cp2) (gp3 : k196.C w Ap3 np3 a0.f1) (lp3 : np3 ≤ cp3) (gp4 : k199.C w Ap4 np4 a0.f5) (lp4 : np4 ≤ cp4) :
    Calls Tryz.prog 18 #[.agg #[.slice Ap0 np0 cp0, .slice Ap1 np1 cp1, .slice Ap2 np2 cp2, .slice Ap3 np3 cp3, .int .i64 a0.f2, .int .i64 a0.f3, .int .i64 a0.f4, .slice Ap4 np4 cp4]] w (fun e w' => ∃ v0_ v1_ v2_ v3_ v4_ : Value, e = .returned (.agg #[v0_, v1_, v2_, v3_, .int .i64 r.f2, .int .i64 r.f3, .int .i64 r.f4, v4_]) ∧ Hp noFP w w' [.own (Zd.slice 91 q91) r.f0.f0 [v0_], .own (Zd.slice 81 q81) r.f0.f1 [v1_], .own (Zd.slice 115 q115) r.f0.f2 [v2_], .own (Zd.slice 202 q202) r.f1 [v3_], .own (Zd.slice 205 q205) r.f5 [v4_]]) := by
 obtain rfl := C_len gp0
 obtain rfl := C_len gp1
 obtain rfl := C_len gp2
 obtain rfl := C_len gp3
 obtain rfl := C_len gp4
 have HS := Hp.start w
 have H := Aside0.mk h
 clear h
 unfold laws_toServer.f at H
 go_enter Tryz.func18, Tryz.ntmps18
 replace H := zbind H; obtain ⟨t7, ht7, H⟩ := H
 replace H := zbind H; obtain ⟨t14, ht14, H⟩ := H
 replace H := zbind H; obtain ⟨t25, ht25, H⟩ := H
 obtain rfl := zsome H
 go_wp2_with (first | ((with_reducible refine gate_dst (N := 1) rfl ?_); refine ev_bx HS ?_; clear HS; (try clear F); intro g1 w1 HS F) | ((with_reducible refine gate_dst (N := 2) rfl ?_); refine ev_bx HS ?_; clear HS; (try clear F); intro g2 w2 HS F) | ((with_reducible refine gate_dst (N := 3) rfl ?_); refine ev_bx HS ?_; clear HS; (try clear F); intro g3 w3 HS F) | ((with_reducible refine gate_dst (N := 6) rfl ?_); refine ev_call rfl Tryz.func13 (by kernel_rfl) rfl #[.agg #[.slice Ap0 a0.f0.f0.length cp0, .slice Ap1 a0.f0.f1.length cp1, .slice Ap2 a0.f0.f2.length cp2]] rfl (by simp only [mpn]; rfl) ?_; refine (laws_toStore.calls ht7.out (HS.ro gp0) lp0 (HS.ro gp1) lp1 (HS.ro gp2) lp2).mono ?_; rintro _ wt7 ⟨v8, v9, v10, rfl, HQ⟩; refine ⟨_, rfl, ?_⟩; replace HS := HS.call HQ; clear HQ; (try clear F); obtain ⟨B8, d8, rfl, m8⟩ := HS.form 3 rfl; obtain ⟨B9, d9, rfl, m9⟩ := HS.form 4 rfl; obtain ⟨B10, d10, rfl, m10⟩ := HS.form 5 rfl; (try simp only [hpn, hpm] at HS); have F := HS.boxes; simp only [bxn] at F) | ((with_reducible refine gate_store (p := 7) rfl ?_); refine ev_st 2 0 HS (seg := [.slice B8 t7.f0.length d8, .slice B9 t7.f1.length d9, .slice B10 t7.f2.length d10]) ?_; clear HS; (try clear F); intro w12 HS F) | ((with_reducible refine gate_dst (N := 10) rfl ?_); refine ev_cl1 HS (laws_toPlanS.calls ht14.out (HS.ro gp3) lp3) Tryz.func76 ?_; clear HS; (try clear F); intro v15 wt14 HS F; obtain ⟨B15, d15, rfl, m15⟩ := HS.form 6 rfl) | ((with_reducible refine gate_store (p := 11) rfl ?_); refine ev_st 2 3 HS (seg := [.slice B15 t14.length d15]) ?_; clear HS; (try clear F); intro w17 HS F) | ((with_reducible refine gate_store (p := 14) rfl ?_); refine ev_st 2 4 HS (seg := [.int .i64 a0.f2]) ?_; clear HS; (try clear F); intro w19 HS F) | ((with_reducible refine gate_store (p := 17) rfl ?_); refine ev_st 2 5 HS (seg := [.int .i64 a0.f3]) ?_; clear HS; (try clear F); intro w21 HS F) | ((with_reducible refine gate_store (p := 20) rfl ?_); refine ev_st 2 6 HS (seg := [.int .i64 a0.f4]) ?_; clear HS; (try clear F); intro w23 HS F) | ((with_reducible refine gate_dst (N := 23) rfl ?_); refine ev_cl1 HS (laws_toKeptS.calls ht25.out (HS.ro gp4) lp4) Tryz.func77 ?_; clear HS; (try clear F); intro v26 wt25 HS F; obtain ⟨B26, d26, rfl, m26⟩ := HS.form 7 rfl) | ((with_reducible refine gate_store (p := 24) rfl ?_); refine ev_st 2 7 HS (seg := [.slice B26 t25.length d26]) ?_; clear HS; (try clear F); intro w28 HS F) | ((with_reducible refine gate_store (p := 2) rfl ?_); refine ev_st 1 0 HS (seg := [.slice B8 t7.f0.length d8, .slice B9 t7.f1.length d9, .slice B10 t7.f2.length d10, .slice B15 t14.length d15, .int .i64 a0.f2, .int .i64 a0.f3, .int .i64 a0.f4, .slice B26 t25.length d26]) ?_; clear HS; (try clear F); intro w30 HS F))
 exact bodyPost_ret (results_single rfl (.cell _ _ _ _ _ rfl (HS.boxAt (i := 1) rfl) Tryz.underlying46 rfl (by kernel_rfl) .nil)) rfl ⟨_, _, _, _, _, rfl, HS.pick [3, 4, 5, 6, 7] (by decide) (by rfl)⟩
/-! ### impl_RulesOk: function 211 -/
def impl_RulesOk.f (k : Nat) (a0 : S200) : Option (Bool) := ((impl_timeOk.f a0.f0).bind fun t3 => (if t3 = true then ((impl_PoliciesOk.f k a0.f1).bind fun t6 => (if t6 = true then ((impl_within.f a0.f4 0 7).bind fun t9 => (some t9)) else (some false))) else (some false)))
set_option maxHeartbeats 16000000 in
theorem impl_RulesOk.calls {k : Nat} {a0 : S200} {Ap0 : Option Addr} {np0 cp0 : Nat} {r : Bool} {w : World} (h : impl_RulesOk.f k a0 = some r) (gp0 : (Kd.int .i64).C w Ap0 np0 a0.f1) (lp0 : np0 ≤ cp0) :
    Calls Tryz.prog 211 #[.agg #[.int .i64 a0.f0, .slice Ap0 np0 cp0, .bool a0.f2, .bool a0.f3, .int .i64 a0.f4]] w (fun e w' => e = .returned (.bool r) ∧ Hp noFP w w' []) := by
 obtain rfl := C_len gp0
 have HS := Hp.start w
 have H := Aside0.mk h
 clear h
 unfold impl_RulesOk.f at H
 go_enter Tryz.func211, Tryz.ntmps211
 replace H := zbind H; obtain ⟨t3, ht3, H⟩ := H
 by_cases c5 : t3 = true
 case neg =>
  replace H := zneg c5 H
  replace c5 := eq_false_of_ne_true c5
  subst c5
  obtain rfl := zsome H
  go_wp2_with (first | ((with_reducible refine gate_dst (N := 1) rfl ?_); refine ev_bx HS ?_; clear HS; (try clear F); intro g1 w1 HS F) | ((with_reducible refine gate_dst (N := 5) rfl ?_); refine ev_cl HS (impl_timeOk.calls ht3.out) Tryz.func80 ?_; clear HS; (try clear F); intro wt3 HS F))
  go_ret
  exact HS.pk
 replace H := zpos c5 H
 subst c5
 replace H := zbind H; obtain ⟨t6, ht6, H⟩ := H
 by_cases c8 : t6 = true
 case neg =>
  replace H := zneg c8 H
  replace c8 := eq_false_of_ne_true c8
  subst c8
  obtain rfl := zsome H
  go_wp2_with (first | ((with_reducible refine gate_dst (N := 1) rfl ?_); refine ev_bx HS ?_; clear HS; (try clear F); intro g1 w1 HS F) | ((with_reducible refine gate_dst (N := 5) rfl ?_); refine ev_cl HS (impl_timeOk.calls ht3.out) Tryz.func80 ?_; clear HS; (try clear F); intro wt3 HS F) | ((with_reducible refine gate_dst (N := 9) rfl ?_); refine gate_guard (by rfl) ?_; refine ev_cl HS (impl_PoliciesOk.calls ht6.out (HS.ro gp0) lp0) Tryz.func187 ?_; clear HS; (try clear F); intro wt6 HS F))
  go_ret
  exact HS.pk
 replace H := zpos c8 H
 subst c8
 replace H := zbind H; obtain ⟨t9, ht9, H⟩ := H
 obtain rfl := zsome H
 go_wp2_with (first | ((with_reducible refine gate_dst (N := 1) rfl ?_); refine ev_bx HS ?_; clear HS; (try clear F); intro g1 w1 HS F) | ((with_reducible refine gate_dst (N := 5) rfl ?_); refine ev_cl HS (impl_timeOk.calls ht3.out) Tryz.func80 ?_; clear HS; (try clear F); intro wt3 HS F) | ((with_reducible refine gate_dst (N := 9) rfl ?_); refine gate_guard (by rfl) ?_; refine ev_cl HS (impl_PoliciesOk.calls ht6.out (HS.ro gp0) lp0) Tryz.func187 ?_; clear HS; (try clear F); intro wt6 HS F) | ((with_reducible refine gate_dst (N := 14) rfl ?_); refine gate_guard (by rfl) ?_; refine ev_cl HS (impl_within.calls ht9.out) Tryz.func79 ?_; clear HS; (try clear F); intro wt9 HS F))
 go_ret
 exact HS.pk
/-! ### impl_planOk: function 156 -/
def impl_planOk.l0 : Nat → Int → S202 → S33 → Option (Bool)
  | 0, _, _, _ => none
  | k + 1, x14, a0, a1 => (if x14 < (a0.f1.length : Int) then (if 0 ≤ x14 then (if x14 < (a0.f1.length : Int) then ((impl_within.f (rd a0.f1 x14) 0 (wrap64 ((a1.f2.length : Int) - 1))).bind fun t20 => (if t20 = true then (if 0 < x14 then (if 0 ≤ (wrap64 (x14 - 1)) then (if (wrap64 (x14 - 1)) < (a0.f1.length : Int) then (if (rd a0.f1 x14) ≤ (rd a0.f1 (wrap64 (x14 - 1))) then (some false) else (impl_planOk.l0 k (wrap64 (x14 + 1)) a0 a1)) else none) else none) else (impl_planOk.l0 k (wrap64 (x14 + 1)) a0 a1)) else (some false))) else none) else none) else ((impl_within.f a0.f0 0 99).bind fun t28 => (if t28 = true then ((impl_RulesOk.f k (⟨0, a0.f2.f1, a0.f2.f2, a0.f2.f3, a0.f2.f4⟩ : S200)).bind fun t31 => (if t31 = true then ((impl_within.f (a0.f1.length : Int) 1 3).bind fun t34 => (some t34)) else (some false))) else (some false))))
def impl_planOk.f (k : Nat) (a0 : S202) (a1 : S33) : Option (Bool) := (impl_planOk.l0 k 0 a0 a1)
set_option maxHeartbeats 16000000 in
theorem impl_planOk.calls {k : Nat} {a0 : S202} {a1 : S33} {Ap0 : Option Addr} {np0 cp0 : Nat} {Ap1 : Option Addr} {np1 cp1 : Nat} {Ap2 : Option Addr} {np2 cp2 : Nat} {Ap3 : Option Addr} {np3 cp3 : Nat} {Ap4 : Option Addr} {np4 cp4 : Nat} {r : Bool} {w : World} (h : impl_planOk.f k a0 a1 = some r) (gp0 : (Kd.int .i64).C w Ap0 np0 a0.f1) (lp0 : np0 ≤ cp0) (gp1 : (Kd.int .i64).C w Ap1 np1 a0.f2.f1) (lp1 : np1 ≤ cp1) (gp2 : k91.C w Ap2 np2 a1.f0) (lp2 : np2 ≤ cp2) (gp3 : k81.C w Ap3 np3 a1.f1) (lp3 : np3 ≤ cp3) (gp4 : k115.C w Ap4 np4 a1.f2) (lp4 : np4 ≤ cp4) :
    Calls Tryz.prog 156 #[.agg #[.int .i64 a0.f0, .slice Ap0 np0 cp0, .int .i64 a0.f2.f0, .slice Ap1 np1 cp1, .bool a0.f2.f2, .bool a0.f2.f3, .int .i64 a0.f2.f4], .agg #[.slice Ap2 np2 cp2, .slice Ap3 np3 cp3, .slice Ap4 np4 cp4]] w (fun e w' => e = .returned (.bool r) ∧ Hp noFP w w' []) := by
 obtain rfl := C_len gp0
 obtain rfl := C_len gp1
 obtain rfl := C_len gp2
 obtain rfl := C_len gp3
 obtain rfl := C_len gp4
 have HS := Hp.start w
 have H := Aside0.mk h
 clear h
 unfold impl_planOk.f at H
 go_enter Tryz.func156, Tryz.ntmps156
 go_wp2_with (first | ((with_reducible refine gate_dst (N := 2) rfl ?_); refine ev_bx HS ?_; clear HS; (try clear F); intro g2 w2 HS F) | ((with_reducible refine gate_dst (N := 3) rfl ?_); refine ev_bx HS ?_; clear HS; (try clear F); intro g3 w3 HS F) | ((with_reducible refine gate_dst (N := 5) rfl ?_); refine ev_bx HS ?_; clear HS; (try clear F); intro g5 w5 HS F) | ((with_reducible refine gate_store (p := 5) rfl ?_); refine ev_st 2 0 HS (seg := [.int .i64 a0.f2.f0, .slice Ap1 a0.f2.f1.length cp1, .bool a0.f2.f2, .bool a0.f2.f3, .int .i64 a0.f2.f4]) ?_; clear HS; (try clear F); intro w7 HS F) | ((with_reducible refine gate_store (p := 10) rfl ?_); refine ev_st 2 0 HS (seg := [.int .i64 0]) ?_; clear HS; (try clear F); intro w9 HS F))
 go_loopg [14] k (fun kq v_14 w' => ∃ (x14 : Int), v_14 = .int .i64 x14 ∧ Aside0 (impl_planOk.l0 kq x14 a0 a1 = some r) ∧ Aside0 (kq ≤ k) ∧ Hp noFP w w' [.box g2 [.int .i64 a0.f0, .slice Ap0 a0.f1.length cp0, .int .i64 a0.f2.f0, .slice Ap1 a0.f2.f1.length cp1, .bool a0.f2.f2, .bool a0.f2.f3, .int .i64 a0.f2.f4] 202, .box g3 [.slice Ap2 a1.f0.length cp2, .slice Ap3 a1.f1.length cp3, .slice Ap4 a1.f2.length cp4] 33, .box g5 [.int .i64 0, .slice Ap1 a0.f2.f1.length cp1, .bool a0.f2.f2, .bool a0.f2.f3, .int .i64 a0.f2.f4] 200])
 case atStart => exact ⟨_, rfl, H, ⟨Nat.le_refl _⟩, HS⟩
 case round =>
  clear HS H; (try clear F)
  obtain ⟨x14, rfl, H, HKk13, HS⟩ := hrel
  have F := HS.boxes; simp only [bxn] at F
  cases gk with
  | zero => exact absurd H.out (by simp [impl_planOk.l0])
  | succ k13 =>
   simp only [impl_planOk.l0] at H
   by_cases c16 : x14 < (a0.f1.length : Int)
   case pos =>
    replace H := zpos c16 H
    replace c16 := eq_true c16
    obtain ⟨c17, H⟩ := zgo H
    obtain ⟨c18, H⟩ := zgo H
    obtain ⟨ad19, rfl, e19_0⟩ := Kd.at_int gp0 x14 (of_eq_true c17) (of_eq_true c18)
    have e19_0_19 := (HS.keepc e19_0)
    replace H := zbind H; obtain ⟨t20, ht20, H⟩ := H
    by_cases c22 : t20 = true
    case neg =>
     replace H := zneg c22 H
     replace c22 := eq_false_of_ne_true c22
     subst c22
     obtain rfl := zsome H
     go_wp2_with (first | ((with_reducible refine gate_dst (N := 24) rfl ?_); refine ev_cl HS (impl_within.calls ht20.out) Tryz.func79 ?_; clear HS; (try clear F); intro wt20 HS F))
     go_ret
     exact HS.pk
    replace H := zpos c22 H
    subst c22
    by_cases c23 : 0 < x14
    case neg =>
     replace H := zneg c23 H
     replace c23 := eq_false c23
     go_wp2_with (first | ((with_reducible refine gate_dst (N := 24) rfl ?_); refine ev_cl HS (impl_within.calls ht20.out) Tryz.func79 ?_; clear HS; (try clear F); intro wt20 HS F))
     go_roundg k13
     case measure => have := HKk13.out; omega
     case rel => exact ⟨_, rfl, H, ⟨by have := HKk13.out; omega⟩, HS.pick [0, 1, 2] (by decide) (by rfl)⟩
    replace H := zpos c23 H
    replace c23 := eq_true c23
    obtain ⟨c24, H⟩ := zgo H
    obtain ⟨c25, H⟩ := zgo H
    go_upto_if 39 with (first | ((with_reducible refine gate_dst (N := 24) rfl ?_); refine ev_cl HS (impl_within.calls ht20.out) Tryz.func79 ?_; clear HS; (try clear F); intro wt20 HS F; obtain ⟨ad26, hq26, e26_0⟩ := Kd.at_int gp0 (wrap64 (x14 - 1)) (of_eq_true c24) (of_eq_true c25); obtain rfl := Option.some.inj hq26; have e26_0_26 := (HS.keepc e26_0)))
    by_cases c27 : (rd a0.f1 x14) ≤ (rd a0.f1 (wrap64 (x14 - 1)))
    case pos =>
     replace H := zpos c27 H
     replace c27 := eq_true c27
     (try simp only [c27, dcn])
     obtain rfl := zsome H
     go_wp2
     go_ret
     exact HS.pk
    replace H := zneg c27 H
    replace c27 := eq_false c27
    (try simp only [c27, dcn])
    go_wp2
    go_roundg k13
    case measure => have := HKk13.out; omega
    case rel => exact ⟨_, rfl, H, ⟨by have := HKk13.out; omega⟩, HS.pick [0, 1, 2] (by decide) (by rfl)⟩
   replace H := zneg c16 H
   replace c16 := eq_false c16
   replace H := zbind H; obtain ⟨t28, ht28, H⟩ := H
   by_cases c30 : t28 = true
   case neg =>
    replace H := zneg c30 H
    replace c30 := eq_false_of_ne_true c30
    subst c30
    obtain rfl := zsome H
    go_wp2_with (first | ((with_reducible refine gate_dst (N := 43) rfl ?_); refine ev_cl HS (impl_within.calls ht28.out) Tryz.func79 ?_; clear HS; (try clear F); intro wt28 HS F))
    go_ret
    exact HS.pk
   replace H := zpos c30 H
   subst c30
   replace H := zbind H; obtain ⟨t31, ht31, H⟩ := H
   by_cases c33 : t31 = true
   case neg =>
    replace H := zneg c33 H
    replace c33 := eq_false_of_ne_true c33
    subst c33
    obtain rfl := zsome H
    go_wp2_with (first | ((with_reducible refine gate_dst (N := 43) rfl ?_); refine ev_cl HS (impl_within.calls ht28.out) Tryz.func79 ?_; clear HS; (try clear F); intro wt28 HS F) | ((with_reducible refine gate_dst (N := 46) rfl ?_); refine gate_guard (by rfl) ?_; refine ev_cl HS (impl_RulesOk.calls ht31.out (HS.ro gp1) lp1) Tryz.func211 ?_; clear HS; (try clear F); intro wt31 HS F))
    go_ret
    exact HS.pk
   replace H := zpos c33 H
   subst c33
   replace H := zbind H; obtain ⟨t34, ht34, H⟩ := H
   obtain rfl := zsome H
   go_wp2_with (first | ((with_reducible refine gate_dst (N := 43) rfl ?_); refine ev_cl HS (impl_within.calls ht28.out) Tryz.func79 ?_; clear HS; (try clear F); intro wt28 HS F) | ((with_reducible refine gate_dst (N := 46) rfl ?_); refine gate_guard (by rfl) ?_; refine ev_cl HS (impl_RulesOk.calls ht31.out (HS.ro gp1) lp1) Tryz.func211 ?_; clear HS; (try clear F); intro wt31 HS F) | ((with_reducible refine gate_dst (N := 52) rfl ?_); refine gate_guard (by rfl) ?_; refine ev_cl HS (impl_within.calls ht34.out) Tryz.func79 ?_; clear HS; (try clear F); intro wt34 HS F))
   go_ret
   exact HS.pk
/-! ### impl_PlansOk: function 78 -/
def impl_PlansOk.l0 : Nat → Int → (List S202) → S33 → Option (Bool)
  | 0, _, _, _ => none
  | k + 1, x6, a0, a1 => (if x6 < (a0.length : Int) then (if 0 ≤ x6 then (if x6 < (a0.length : Int) then ((impl_planOk.f k (rd_T202 a0 x6) a1).bind fun t102001 => (if t102001 = true then (if 0 < x6 then (if 0 ≤ (wrap64 (x6 - 1)) then (if (wrap64 (x6 - 1)) < (a0.length : Int) then (if (rd_T202 a0 x6).f0 ≤ (rd_T202 a0 (wrap64 (x6 - 1))).f0 then (some false) else (impl_PlansOk.l0 k (wrap64 (x6 + 1)) a0 a1)) else none) else none) else (impl_PlansOk.l0 k (wrap64 (x6 + 1)) a0 a1)) else (some false))) else none) else none) else (some (decide ((a0.length : Int) ≤ 6))))
def impl_PlansOk.f (k : Nat) (a0 : (List S202)) (a1 : S33) : Option (Bool) := (impl_PlansOk.l0 k 0 a0 a1)
def impl_PlansOk.T4 : Bool × List (List Nat × List Nat) := (true, [([], []), ([], []), ([0, 1], [0, 1]), ([2], [2]), ([3, 2], [3]), ([4], [4]), ([5, 4], [4, 5]), ([6, 4, 4], [4, 6]), ([7], [7]), ([7], [7]), ([9, 7], [7, 9]), ([8, 10, 7], [7, 8, 10]), ([11, 7], [7, 11]), ([12, 7], [7, 12]), ([7], [7]), ([14, 7], [7, 14]), ([13, 15, 7], [7, 13, 15]), ([7, 16, 4], [4, 7, 16]), ([4, 17], [4, 17])])
theorem impl_PlansOk.tT4 : rtab .any (opsOf Tryz.f78 4) = impl_PlansOk.T4 := by kernel_rfl
set_option maxHeartbeats 16000000 in
theorem impl_PlansOk.calls {k : Nat} {a0 : (List S202)} {a1 : S33} {Ap0 : Option Addr} {np0 cp0 : Nat} {Ap1 : Option Addr} {np1 cp1 : Nat} {Ap2 : Option Addr} {np2 cp2 : Nat} {Ap3 : Option Addr} {np3 cp3 : Nat} {r : Bool} {w : World} (h : impl_PlansOk.f k a0 a1 = some r) (gp0 : k202.C w Ap0 np0 a0) (lp0 : np0 ≤ cp0) (gp1 : k91.C w Ap1 np1 a1.f0) (lp1 : np1 ≤ cp1) (gp2 : k81.C w Ap2 np2 a1.f1) (lp2 : np2 ≤ cp2) (gp3 : k115.C w Ap3 np3 a1.f2) (lp3 : np3 ≤ cp3) :
    Calls Tryz.prog 78 #[.slice Ap0 np0 cp0, .agg #[.slice Ap1 np1 cp1, .slice Ap2 np2 cp2, .slice Ap3 np3 cp3]] w (fun e w' => e = .returned (.bool r) ∧ Hp noFP w w' []) := by
 obtain rfl := C_len gp0
 obtain rfl := C_len gp1
 obtain rfl := C_len gp2
 obtain rfl := C_len gp3
 have HS := Hp.start w
 have H := Aside0.mk h
 clear h
 unfold impl_PlansOk.f at H
 go_enter Tryz.func78, Tryz.ntmps78
 go_wp2_with (first | ((with_reducible refine gate_dst (N := 3) rfl ?_); refine ev_bx HS ?_; clear HS; (try clear F); intro g3 w3 HS F))
 go_loopg [9] k (fun kq v_9 w' => ∃ (x6 : Int), v_9 = .int .i64 x6 ∧ Aside0 (impl_PlansOk.l0 kq x6 a0 a1 = some r) ∧ Aside0 (kq ≤ k) ∧ Hp noFP w w' [.box g3 [.slice Ap1 a1.f0.length cp1, .slice Ap2 a1.f1.length cp2, .slice Ap3 a1.f2.length cp3] 33])
 case atStart => exact ⟨_, rfl, H, ⟨Nat.le_refl _⟩, HS⟩
 case round =>
  clear HS H; (try clear F)
  obtain ⟨x6, rfl, H, HKk5, HS⟩ := hrel
  have F := HS.boxes; simp only [bxn] at F
  cases gk with
  | zero => exact absurd H.out (by simp [impl_PlansOk.l0])
  | succ k5 =>
   simp only [impl_PlansOk.l0] at H
   by_cases c8 : x6 < (a0.length : Int)
   case neg =>
    replace H := zneg c8 H
    replace c8 := eq_false c8
    obtain rfl := zsome H
    go_wp2
    go_ret
    exact HS.pk
   replace H := zpos c8 H
   replace c8 := eq_true c8
   obtain ⟨c9, H⟩ := zgo H
   obtain ⟨c10, H⟩ := zgo H
   obtain ⟨ad11, B11_1, d11_1, B11_3, d11_3, rfl, e11_0, e11_1, e11_2, e11_3, e11_4, e11_5, e11_6, m11_1, y11_1, m11_3, y11_3⟩ := at_T202 gp0 x6 (of_eq_true c9) (of_eq_true c10)
   have e11_0_11 := (HS.keepc e11_0)
   have e11_1_11 := (HS.keepc e11_1)
   have e11_2_11 := (HS.keepc e11_2)
   have e11_3_11 := (HS.keepc e11_3)
   have e11_4_11 := (HS.keepc e11_4)
   have e11_5_11 := (HS.keepc e11_5)
   have e11_6_11 := (HS.keepc e11_6)
   go_wp2_with (first | ((with_reducible refine gate_dst (N := 6) rfl ?_); refine ev_bx HS ?_; clear HS; (try clear F); intro g6 w6 HS F) | ((with_reducible refine gate_store (p := 6) rfl ?_); refine ev_st 1 0 HS (seg := [.int .i64 ((rd_T202 a0 x6).f0), .slice B11_1 (rd_T202 a0 x6).f1.length d11_1, .int .i64 ((rd_T202 a0 x6).f2.f0), .slice B11_3 (rd_T202 a0 x6).f2.f1.length d11_3, .bool ((rd_T202 a0 x6).f2.f2), .bool ((rd_T202 a0 x6).f2.f3), .int .i64 ((rd_T202 a0 x6).f2.f4)]) ?_; clear HS; (try clear F); intro w14 HS F))
   replace H := zbind H; obtain ⟨t102001, ht102001, H⟩ := H
   by_cases c104001 : t102001 = true
   case neg =>
    replace H := zneg c104001 H
    replace c104001 := eq_false_of_ne_true c104001
    subst c104001
    refine dr_start [] HS #[false, false, false, false, false, false, false, false, false, false, false, false, false, false, false, false, false, false, false] (by kernel_rfl) rfl rfl impl_PlansOk.tT4 (fun w22 HT HS HH => ?_)
    (try clear F)
    refine drq_of [(0, some 14), (1, some 15)] ?_
    repeat (refine drt HT HH ?_)
    refine drq_end ?_
    refine dr1 2 HT fun K hK => ?_
    refine go_cl HS (impl_planOk.calls ht102001.out (HS.ro y11_1) m11_1 (HS.ro y11_3) m11_3 (HS.ro gp1) lp1 (HS.ro gp2) lp2 (HS.ro gp3) lp3) Tryz.func156 ?_; clear HS; (try clear F); intro wt102001 HS F
    refine nrm 16 hK ⟨_, HS⟩ (fun HH => ?_); clear hK K
    refine drq_of [(3, some 17), (4, some 18), (5, some 19), (6, some 20), (7, some 21), (8, some 22), (9, some 23), (10, some 24), (11, some 25), (12, some 26), (13, some 27), (14, some 28), (15, some 29), (16, some 30), (17, some 31), (18, some 32)] ?_
    repeat (first | (refine drq_pure HT (v := ?_) (a' := ?_) rfl rfl (by kernel_rfl) (fun _ _ _ h => h) (.inl ⟨by rfl, ?_⟩) ?_ ?_; rotate_left; (intro w'; go_simp; with_reducible rfl); rotate_left; (simp only [Act.put, ptn]; rfl)) | (refine drq_pure HT (v := undef) (a' := ?_) rfl rfl (by kernel_rfl) (fun _ _ _ h => h) (.inr ⟨by rfl, rfl⟩) ?_ ?_; rotate_left; (simp only [Act.put, ptn]; rfl)))
    refine drq_end ?_
    refine done_ (done_of HT.out (by kernel_rfl)) ?_
    (try clear F)
    have F := HS.boxes; simp only [bxn] at F
    obtain rfl := zsome H
    go_wp2
    go_ret
    exact HS.pk
   replace H := zpos c104001 H
   subst c104001
   by_cases c107001 : 0 < x6
   case neg =>
    replace H := zneg c107001 H
    replace c107001 := eq_false c107001
    refine dr_start [] HS #[false, false, false, false, false, false, false, false, false, false, false, false, false, false, false, false, false, false, false] (by kernel_rfl) rfl rfl impl_PlansOk.tT4 (fun w20 HT HS HH => ?_)
    (try clear F)
    refine drq_of [(0, some 14), (1, some 15)] ?_
    repeat (refine drt HT HH ?_)
    refine drq_end ?_
    refine dr1 2 HT fun K hK => ?_
    refine go_cl HS (impl_planOk.calls ht102001.out (HS.ro y11_1) m11_1 (HS.ro y11_3) m11_3 (HS.ro gp1) lp1 (HS.ro gp2) lp2 (HS.ro gp3) lp3) Tryz.func156 ?_; clear HS; (try clear F); intro wt102001 HS F
    refine nrm 16 hK ⟨_, HS⟩ (fun HH => ?_); clear hK K
    refine drq_of [(3, some 17), (4, some 18), (5, some 19), (6, some 20), (7, some 21), (8, some 22), (9, some 23), (10, some 24), (11, some 25), (12, some 26), (13, some 27), (14, some 28), (15, some 29), (16, some 30), (17, some 31), (18, some 32)] ?_
    repeat (first | (refine drq_pure HT (v := ?_) (a' := ?_) rfl rfl (by kernel_rfl) (fun _ _ _ h => h) (.inl ⟨by rfl, ?_⟩) ?_ ?_; rotate_left; (intro w'; go_simp; with_reducible rfl); rotate_left; (simp only [Act.put, ptn]; rfl)) | (refine drq_pure HT (v := undef) (a' := ?_) rfl rfl (by kernel_rfl) (fun _ _ _ h => h) (.inr ⟨by rfl, rfl⟩) ?_ ?_; rotate_left; (simp only [Act.put, ptn]; rfl)))
    refine drq_end ?_
    refine done_ (done_of HT.out (by kernel_rfl)) ?_
    (try clear F)
    have F := HS.boxes; simp only [bxn] at F
    go_wp2
    go_roundg k5
    case measure => have := HKk5.out; omega
    case rel => exact ⟨_, rfl, H, ⟨by have := HKk5.out; omega⟩, HS.pick [0] (by decide) (by rfl)⟩
   replace H := zpos c107001 H
   replace c107001 := eq_true c107001
   obtain ⟨c111001, H⟩ := zgo H
   obtain ⟨c111002, H⟩ := zgo H
   obtain ⟨ad111999, B111999_1, d111999_1, B111999_3, d111999_3, hq111999, e111999_0, e111999_1, e111999_2, e111999_3, e111999_4, e111999_5, e111999_6, m111999_1, y111999_1, m111999_3, y111999_3⟩ := at_T202 gp0 (wrap64 (x6 - 1)) (of_eq_true c111001) (of_eq_true c111002); obtain rfl := Option.some.inj hq111999
   refine dr_start [] HS #[false, false, false, false, false, false, false, false, false, false, false, false, false, false, false, false, false, false, false] (by kernel_rfl) rfl rfl impl_PlansOk.tT4 (fun w17 HT HS HH => ?_)
   (try clear F)
   refine drq_of [(0, some 14), (1, some 15)] ?_
   repeat (refine drt HT HH ?_)
   refine drq_end ?_
   refine dr1 2 HT fun K hK => ?_
   refine go_cl HS (impl_planOk.calls ht102001.out (HS.ro y11_1) m11_1 (HS.ro y11_3) m11_3 (HS.ro gp1) lp1 (HS.ro gp2) lp2 (HS.ro gp3) lp3) Tryz.func156 ?_; clear HS; (try clear F); intro wt102001 HS F
   refine nrm 16 hK ⟨_, HS⟩ (fun HH => ?_); clear hK K
   refine drq_of [(3, some 17), (4, some 18), (5, some 19), (6, some 20), (7, some 21), (8, some 22), (9, some 23), (10, some 24), (11, some 25), (12, some 26)] ?_
   repeat (refine drp HT ?_)
   refine drq_end ?_
   refine dr_take 13 (some 27) HT HH (v := ?_) (a' := ?_) rfl rfl (by kernel_rfl) (fun _ _ _ h => h) (.inl ⟨by rfl, ?_⟩) ?_ ?_
   rotate_left
   · rintro w' ⟨rs', HS'⟩; have e111999_0 := (HS'.keepc e111999_0); have e111999_1 := (HS'.keepc e111999_1); have e111999_2 := (HS'.keepc e111999_2); have e111999_3 := (HS'.keepc e111999_3); have e111999_4 := (HS'.keepc e111999_4); have e111999_5 := (HS'.keepc e111999_5); have e111999_6 := (HS'.keepc e111999_6); go_simp; with_reducible rfl
   rotate_left
   · simp only [Act.put, ptn]; rfl
   refine drq_of [(14, some 28), (15, some 29), (16, some 30), (17, some 31), (18, some 32)] ?_
   repeat (first | refine drp HT ?_ | refine drt HT HH ?_)
   refine drq_end ?_
   refine done_ (done_of HT.out (by kernel_rfl)) ?_
   (try clear F)
   have F := HS.boxes; simp only [bxn] at F
   by_cases c19 : (rd_T202 a0 x6).f0 ≤ (rd_T202 a0 (wrap64 (x6 - 1))).f0
   case pos =>
    replace H := zpos c19 H
    replace c19 := eq_true c19
    (try simp only [c19, dcn])
    obtain rfl := zsome H
    go_wp2
    go_ret
    exact HS.pk
   replace H := zneg c19 H
   replace c19 := eq_false c19
   (try simp only [c19, dcn])
   go_wp2
   go_roundg k5
   case measure => have := HKk5.out; omega
   case rel => exact ⟨_, rfl, H, ⟨by have := HKk5.out; omega⟩, HS.pick [0] (by decide) (by rfl)⟩
/-! ### impl_ServerOk: function 19 -/
def impl_ServerOk.f (k : Nat) (a0 : S46) : Option (Bool) := ((impl_StoreOk.f k a0.f0).bind fun t3 => (if t3 = true then ((impl_PlansOk.f k a0.f1 a0.f0).bind fun t6 => (if t6 = true then ((impl_within.f a0.f2 0 5).bind fun t9 => (if t9 = true then ((impl_timeOk.f a0.f3).bind fun t12 => (if t12 = true then ((impl_timeOk.f a0.f4).bind fun t15 => (if t15 = true then (some (decide ((a0.f5.length : Int) ≤ 3))) else (some false))) else (some false))) else (some false))) else (some false))) else (some false)))
set_option maxHeartbeats 16000000 in
theorem impl_ServerOk.calls {k : Nat} {a0 : S46} {Ap0 : Option Addr} {np0 cp0 : Nat} {Ap1 : Option Addr} {np1 cp1 : Nat} {Ap2 : Option Addr} {np2 cp2 : Nat} {Ap3 : Option Addr} {np3 cp3 : Nat} {Ap4 : Option Addr} {np4 cp4 : Nat} {mG : Int} {r : Bool} {w : World} (h : impl_ServerOk.f k a0 = some r) (gp0 : k91.C w Ap0 np0 a0.f0.f0) (lp0 : np0 ≤ cp0) (gp1 : k81.C w Ap1 np1 a0.f0.f1) (lp1 : np1 ≤ cp1) (gp2 : k115.C w Ap2 np2 a0.f0.f2) (lp2 : np2 ≤ cp2) (gp3 : k202.C w Ap3 np3 a0.f1) (lp3 : np3 ≤ cp3) (gp4 : k205.C w Ap4 np4 a0.f5) (lp4 : np4 ≤ cp4) (hgM : w.cell? ⟨0, 0, none⟩ = some (.int .i64 mG)) :
    Calls Tryz.prog 19 #[.agg #[.slice Ap0 np0 cp0, .slice Ap1 np1 cp1, .slice Ap2 np2 cp2, .slice Ap3 np3 cp3, .int .i64 a0.f2, .int .i64 a0.f3, .int .i64 a0.f4, .slice Ap4 np4 cp4]] w (fun e w' => e = .returned (.bool r) ∧ Hp noFP w w' []) := by
 obtain rfl := C_len gp0
 obtain rfl := C_len gp1
 obtain rfl := C_len gp2
 obtain rfl := C_len gp3
 obtain rfl := C_len gp4
 have HS := Hp.start w
 have H := Aside0.mk h
 clear h
 unfold impl_ServerOk.f at H
 go_enter Tryz.func19, Tryz.ntmps19
 replace H := zbind H; obtain ⟨t3, ht3, H⟩ := H
 by_cases c5 : t3 = true
 case neg =>
  replace H := zneg c5 H
  replace c5 := eq_false_of_ne_true c5
  subst c5
  obtain rfl := zsome H
  go_wp2_with (first | ((with_reducible refine gate_dst (N := 1) rfl ?_); refine ev_bx HS ?_; clear HS; (try clear F); intro g1 w1 HS F) | ((with_reducible refine gate_dst (N := 5) rfl ?_); refine ev_cl HS (impl_StoreOk.calls ht3.out (HS.ro gp0) lp0 (HS.ro gp1) lp1 (HS.ro gp2) lp2 (HS.keepc hgM)) Tryz.func14 ?_; clear HS; (try clear F); intro wt3 HS F))
  go_ret
  exact HS.pk
 replace H := zpos c5 H
 subst c5
 replace H := zbind H; obtain ⟨t6, ht6, H⟩ := H
 by_cases c8 : t6 = true
 case neg =>
  replace H := zneg c8 H
  replace c8 := eq_false_of_ne_true c8
  subst c8
  obtain rfl := zsome H
  go_wp2_with (first | ((with_reducible refine gate_dst (N := 1) rfl ?_); refine ev_bx HS ?_; clear HS; (try clear F); intro g1 w1 HS F) | ((with_reducible refine gate_dst (N := 5) rfl ?_); refine ev_cl HS (impl_StoreOk.calls ht3.out (HS.ro gp0) lp0 (HS.ro gp1) lp1 (HS.ro gp2) lp2 (HS.keepc hgM)) Tryz.func14 ?_; clear HS; (try clear F); intro wt3 HS F) | ((with_reducible refine gate_dst (N := 11) rfl ?_); refine gate_guard (by rfl) ?_; refine ev_cl HS (impl_PlansOk.calls ht6.out (HS.ro gp3) lp3 (HS.ro gp0) lp0 (HS.ro gp1) lp1 (HS.ro gp2) lp2) Tryz.func78 ?_; clear HS; (try clear F); intro wt6 HS F))
  go_ret
  exact HS.pk
 replace H := zpos c8 H
 subst c8
 replace H := zbind H; obtain ⟨t9, ht9, H⟩ := H
 by_cases c11 : t9 = true
 case neg =>
  replace H := zneg c11 H
  replace c11 := eq_false_of_ne_true c11
  subst c11
  obtain rfl := zsome H
  go_wp2_with (first | ((with_reducible refine gate_dst (N := 1) rfl ?_); refine ev_bx HS ?_; clear HS; (try clear F); intro g1 w1 HS F) | ((with_reducible refine gate_dst (N := 5) rfl ?_); refine ev_cl HS (impl_StoreOk.calls ht3.out (HS.ro gp0) lp0 (HS.ro gp1) lp1 (HS.ro gp2) lp2 (HS.keepc hgM)) Tryz.func14 ?_; clear HS; (try clear F); intro wt3 HS F) | ((with_reducible refine gate_dst (N := 11) rfl ?_); refine gate_guard (by rfl) ?_; refine ev_cl HS (impl_PlansOk.calls ht6.out (HS.ro gp3) lp3 (HS.ro gp0) lp0 (HS.ro gp1) lp1 (HS.ro gp2) lp2) Tryz.func78 ?_; clear HS; (try clear F); intro wt6 HS F) | ((with_reducible refine gate_dst (N := 16) rfl ?_); refine gate_guard (by rfl) ?_; refine ev_cl HS (impl_within.calls ht9.out) Tryz.func79 ?_; clear HS; (try clear F); intro wt9 HS F))
  go_ret
  exact HS.pk
 replace H := zpos c11 H
 subst c11
 replace H := zbind H; obtain ⟨t12, ht12, H⟩ := H
 by_cases c14 : t12 = true
 case neg =>
  replace H := zneg c14 H
  replace c14 := eq_false_of_ne_true c14
  subst c14
  obtain rfl := zsome H
  go_wp2_with (first | ((with_reducible refine gate_dst (N := 1) rfl ?_); refine ev_bx HS ?_; clear HS; (try clear F); intro g1 w1 HS F) | ((with_reducible refine gate_dst (N := 5) rfl ?_); refine ev_cl HS (impl_StoreOk.calls ht3.out (HS.ro gp0) lp0 (HS.ro gp1) lp1 (HS.ro gp2) lp2 (HS.keepc hgM)) Tryz.func14 ?_; clear HS; (try clear F); intro wt3 HS F) | ((with_reducible refine gate_dst (N := 11) rfl ?_); refine gate_guard (by rfl) ?_; refine ev_cl HS (impl_PlansOk.calls ht6.out (HS.ro gp3) lp3 (HS.ro gp0) lp0 (HS.ro gp1) lp1 (HS.ro gp2) lp2) Tryz.func78 ?_; clear HS; (try clear F); intro wt6 HS F) | ((with_reducible refine gate_dst (N := 16) rfl ?_); refine gate_guard (by rfl) ?_; refine ev_cl HS (impl_within.calls ht9.out) Tryz.func79 ?_; clear HS; (try clear F); intro wt9 HS F) | ((with_reducible refine gate_dst (N := 21) rfl ?_); refine gate_guard (by rfl) ?_; refine ev_cl HS (impl_timeOk.calls ht12.out) Tryz.func80 ?_; clear HS; (try clear F); intro wt12 HS F))
  go_ret
  exact HS.pk
 replace H := zpos c14 H
 subst c14
 replace H := zbind H; obtain ⟨t15, ht15, H⟩ := H
 by_cases c17 : t15 = true
 case pos =>
  replace H := zpos c17 H
  subst c17
  obtain rfl := zsome H
  go_wp2_with (first | ((with_reducible refine gate_dst (N := 1) rfl ?_); refine ev_bx HS ?_; clear HS; (try clear F); intro g1 w1 HS F) | ((with_reducible refine gate_dst (N := 5) rfl ?_); refine ev_cl HS (impl_StoreOk.calls ht3.out (HS.ro gp0) lp0 (HS.ro gp1) lp1 (HS.ro gp2) lp2 (HS.keepc hgM)) Tryz.func14 ?_; clear HS; (try clear F); intro wt3 HS F) | ((with_reducible refine gate_dst (N := 11) rfl ?_); refine gate_guard (by rfl) ?_; refine ev_cl HS (impl_PlansOk.calls ht6.out (HS.ro gp3) lp3 (HS.ro gp0) lp0 (HS.ro gp1) lp1 (HS.ro gp2) lp2) Tryz.func78 ?_; clear HS; (try clear F); intro wt6 HS F) | ((with_reducible refine gate_dst (N := 16) rfl ?_); refine gate_guard (by rfl) ?_; refine ev_cl HS (impl_within.calls ht9.out) Tryz.func79 ?_; clear HS; (try clear F); intro wt9 HS F) | ((with_reducible refine gate_dst (N := 21) rfl ?_); refine gate_guard (by rfl) ?_; refine ev_cl HS (impl_timeOk.calls ht12.out) Tryz.func80 ?_; clear HS; (try clear F); intro wt12 HS F) | ((with_reducible refine gate_dst (N := 26) rfl ?_); refine gate_guard (by rfl) ?_; refine ev_cl HS (impl_timeOk.calls ht15.out) Tryz.func80 ?_; clear HS; (try clear F); intro wt15 HS F))
  go_ret
  exact HS.pk
 replace H := zneg c17 H
 replace c17 := eq_false_of_ne_true c17
 subst c17
 obtain rfl := zsome H
 go_wp2_with (first | ((with_reducible refine gate_dst (N := 1) rfl ?_); refine ev_bx HS ?_; clear HS; (try clear F); intro g1 w1 HS F) | ((with_reducible refine gate_dst (N := 5) rfl ?_); refine ev_cl HS (impl_StoreOk.calls ht3.out (HS.ro gp0) lp0 (HS.ro gp1) lp1 (HS.ro gp2) lp2 (HS.keepc hgM)) Tryz.func14 ?_; clear HS; (try clear F); intro wt3 HS F) | ((with_reducible refine gate_dst (N := 11) rfl ?_); refine gate_guard (by rfl) ?_; refine ev_cl HS (impl_PlansOk.calls ht6.out (HS.ro gp3) lp3 (HS.ro gp0) lp0 (HS.ro gp1) lp1 (HS.ro gp2) lp2) Tryz.func78 ?_; clear HS; (try clear F); intro wt6 HS F) | ((with_reducible refine gate_dst (N := 16) rfl ?_); refine gate_guard (by rfl) ?_; refine ev_cl HS (impl_within.calls ht9.out) Tryz.func79 ?_; clear HS; (try clear F); intro wt9 HS F) | ((with_reducible refine gate_dst (N := 21) rfl ?_); refine gate_guard (by rfl) ?_; refine ev_cl HS (impl_timeOk.calls ht12.out) Tryz.func80 ?_; clear HS; (try clear F); intro wt12 HS F) | ((with_reducible refine gate_dst (N := 26) rfl ?_); refine gate_guard (by rfl) ?_; refine ev_cl HS (impl_timeOk.calls ht15.out) Tryz.func80 ?_; clear HS; (try clear F); intro wt15 HS F))
 go_ret
 exact HS.pk
/-! ### laws_eqCertS: function 68 -/
def laws_eqCertS.l0 : Nat → Int → (List S91) → (List S91) → Option (Bool)
  | 0, _, _, _ => none
  | k + 1, x5, a0, a1 => (if x5 < (a0.length : Int) then (if 0 ≤ x5 then (if x5 < (a0.length : Int) then (if x5 < (a1.length : Int) then ((laws_eqCert.f k (rd_T91 a0 x5) (rd_T91 a1 x5)).bind fun t108001 => (if t108001 = true then (laws_eqCertS.l0 k (wrap64 (x5 + 1)) a0 a1) else (some false))) else none) else none) else none) else (some true))
def laws_eqCertS.f (k : Nat) (a0 : (List S91)) (a1 : (List S91)) : Option (Bool) := (if (a0.length : Int) = (a1.length : Int) then (laws_eqCertS.l0 k 0 a0 a1) else (some false))
def laws_eqCertS.T6 : Bool × List (List Nat × List Nat) := (true, [([], []), ([], []), ([0, 1], [0, 1]), ([2], [2]), ([], []), ([], []), ([4, 5], [4, 5]), ([6], [6]), ([3, 7], [3, 7]), ([8], [8])])
theorem laws_eqCertS.tT6 : rtab .any (opsOf Tryz.f68 6) = laws_eqCertS.T6 := by kernel_rfl
set_option maxHeartbeats 16000000 in
theorem laws_eqCertS.calls {k : Nat} {a0 : (List S91)} {a1 : (List S91)} {Ap0 : Option Addr} {np0 cp0 : Nat} {Ap1 : Option Addr} {np1 cp1 : Nat} {r : Bool} {w : World} (h : laws_eqCertS.f k a0 a1 = some r) (gp0 : k91.C w Ap0 np0 a0) (lp0 : np0 ≤ cp0) (gp1 : k91.C w Ap1 np1 a1) (lp1 : np1 ≤ cp1) :
    Calls Tryz.prog 68 #[.slice Ap0 np0 cp0, .slice Ap1 np1 cp1] w (fun e w' => e = .returned (.bool r) ∧ Hp noFP w w' []) := by
 obtain rfl := C_len gp0
 obtain rfl := C_len gp1
 have HS := Hp.start w
 have H := Aside0.mk h
 clear h
 unfold laws_eqCertS.f at H
 go_enter Tryz.func68, Tryz.ntmps68
 by_cases c1 : (a0.length : Int) = (a1.length : Int)
 case neg =>
  replace H := zneg c1 H
  have c1a := beq_eq_false_iff_ne.mpr c1
  have c1b := bne_iff_ne.mpr c1
  clear c1
  obtain rfl := zsome H
  go_wp2
  go_ret
  exact HS.pk
 replace H := zpos c1 H
 have c1a := beq_iff_eq.mpr c1
 have c1b := bne_eq_false_iff_eq.mpr c1
 clear c1
 go_wp2
 go_loopg [5] k (fun kq v_5 w' => ∃ (x5 : Int), v_5 = .int .i64 x5 ∧ Aside0 (laws_eqCertS.l0 kq x5 a0 a1 = some r) ∧ Aside0 (kq ≤ k) ∧ Hp noFP w w' [])
 case atStart => exact ⟨_, rfl, H, ⟨Nat.le_refl _⟩, HS⟩
 case round =>
  clear HS H; (try clear F)
  obtain ⟨x5, rfl, H, HKk4, HS⟩ := hrel
  cases gk with
  | zero => exact absurd H.out (by simp [laws_eqCertS.l0])
  | succ k4 =>
   simp only [laws_eqCertS.l0] at H
   by_cases c7 : x5 < (a0.length : Int)
   case neg =>
    replace H := zneg c7 H
    replace c7 := eq_false c7
    obtain rfl := zsome H
    go_wp2
    go_ret
    exact HS.pk
   replace H := zpos c7 H
   replace c7 := eq_true c7
   (try go_wp2)
   obtain ⟨c102001, H⟩ := zgo H
   obtain ⟨c102002, H⟩ := zgo H
   obtain ⟨ad102999, B102999_9, d102999_9, B102999_10, d102999_10, B102999_11, d102999_11, rfl, e102999_0, e102999_1, e102999_2, e102999_3, e102999_4, e102999_5, e102999_6, e102999_7, e102999_8, e102999_9, e102999_10, e102999_11, e102999_12, m102999_9, y102999_9, m102999_10, y102999_10, m102999_11, y102999_11⟩ := at_T91 gp0 x5 (of_eq_true c102001) (of_eq_true c102002)
   obtain ⟨c106001, H⟩ := zgo H
   obtain ⟨ad106999, B106999_9, d106999_9, B106999_10, d106999_10, B106999_11, d106999_11, rfl, e106999_0, e106999_1, e106999_2, e106999_3, e106999_4, e106999_5, e106999_6, e106999_7, e106999_8, e106999_9, e106999_10, e106999_11, e106999_12, m106999_9, y106999_9, m106999_10, y106999_10, m106999_11, y106999_11⟩ := at_T91 gp1 x5 (of_eq_true c102001) (of_eq_true c106001)
   replace H := zbind H; obtain ⟨t108001, ht108001, H⟩ := H
   refine dr_start [] HS #[false, false, false, false, false, false, false, false, false, false] (by kernel_rfl) rfl rfl laws_eqCertS.tT6 (fun w9 HT HS HH => ?_)
   (try clear F)
   refine drq_of [(0, some 17), (1, some 18), (2, some 19)] ?_
   repeat (refine drp HT ?_)
   refine drq_end ?_
   refine dr_take 3 (some 20) HT HH (v := ?_) (a' := ?_) rfl rfl (by kernel_rfl) (fun _ _ _ h => h) (.inl ⟨by rfl, ?_⟩) ?_ ?_
   rotate_left
   · rintro w' ⟨rs', HS'⟩; have e102999_0 := (HS'.keepc e102999_0); have e102999_1 := (HS'.keepc e102999_1); have e102999_2 := (HS'.keepc e102999_2); have e102999_3 := (HS'.keepc e102999_3); have e102999_4 := (HS'.keepc e102999_4); have e102999_5 := (HS'.keepc e102999_5); have e102999_6 := (HS'.keepc e102999_6); have e102999_7 := (HS'.keepc e102999_7); have e102999_8 := (HS'.keepc e102999_8); have e102999_9 := (HS'.keepc e102999_9); have e102999_10 := (HS'.keepc e102999_10); have e102999_11 := (HS'.keepc e102999_11); have e102999_12 := (HS'.keepc e102999_12); go_simp; with_reducible rfl
   rotate_left
   · simp only [Act.put, ptn]; rfl
   refine drq_of [(4, some 21), (5, some 22), (6, some 23)] ?_
   repeat (refine drp HT ?_)
   refine drq_end ?_
   refine dr_take 7 (some 24) HT HH (v := ?_) (a' := ?_) rfl rfl (by kernel_rfl) (fun _ _ _ h => h) (.inl ⟨by rfl, ?_⟩) ?_ ?_
   rotate_left
   · rintro w' ⟨rs', HS'⟩; have e106999_0 := (HS'.keepc e106999_0); have e106999_1 := (HS'.keepc e106999_1); have e106999_2 := (HS'.keepc e106999_2); have e106999_3 := (HS'.keepc e106999_3); have e106999_4 := (HS'.keepc e106999_4); have e106999_5 := (HS'.keepc e106999_5); have e106999_6 := (HS'.keepc e106999_6); have e106999_7 := (HS'.keepc e106999_7); have e106999_8 := (HS'.keepc e106999_8); have e106999_9 := (HS'.keepc e106999_9); have e106999_10 := (HS'.keepc e106999_10); have e106999_11 := (HS'.keepc e106999_11); have e106999_12 := (HS'.keepc e106999_12); go_simp; with_reducible rfl
   rotate_left
   · simp only [Act.put, ptn]; rfl
   refine dr1 8 HT fun K hK => ?_
   refine go_cl HS (laws_eqCert.calls ht108001.out (HS.ro y102999_9) m102999_9 (HS.ro y102999_10) m102999_10 (HS.ro y102999_11) m102999_11 (HS.ro y106999_9) m106999_9 (HS.ro y106999_10) m106999_10 (HS.ro y106999_11) m106999_11) Tryz.func38 ?_; clear HS; (try clear F); intro wt108001 HS F
   refine nrm 25 hK ⟨_, HS⟩ (fun HH => ?_); clear hK K
   refine drq_of [(9, some 26)] ?_
   repeat (refine drp HT ?_)
   refine drq_end ?_
   refine done_ (done_of HT.out (by kernel_rfl)) ?_
   by_cases c11 : t108001 = true
   case neg =>
    replace H := zneg c11 H
    replace c11 := eq_false_of_ne_true c11
    subst c11
    (try simp only [dcn, if_true, Bool.false_eq_true, if_false])
    obtain rfl := zsome H
    go_wp2
    go_ret
    exact HS.pk
   replace H := zpos c11 H
   subst c11
   (try simp only [dcn, if_true, Bool.false_eq_true, if_false])
   go_wp2
   go_roundg k4
   case measure => have := HKk4.out; omega
   case rel => exact ⟨_, rfl, H, ⟨by have := HKk4.out; omega⟩, HS.pick [] (by decide) (by rfl)⟩
/-! ### laws_eqRev: function 179 -/
def laws_eqRev.f (a0 : S238) (a1 : S238) : Option (Bool) := (if a0.f0 = a1.f0 then (if a0.f1 = a1.f1 then (some true) else (some false)) else (some false))
set_option maxHeartbeats 16000000 in
theorem laws_eqRev.calls {a0 : S238} {a1 : S238} {r : Bool} {w : World} (h : laws_eqRev.f a0 a1 = some r) :
    Calls Tryz.prog 179 #[.agg #[.int .i64 a0.f0, .int .i64 a0.f1], .agg #[.int .i64 a1.f0, .int .i64 a1.f1]] w (fun e w' => e = .returned (.bool r) ∧ Hp noFP w w' []) := by
 have HS := Hp.start w
 have H := Aside0.mk h
 clear h
 unfold laws_eqRev.f at H
 go_enter Tryz.func179, Tryz.ntmps179
 go_upto_if 9 with (first | ((with_reducible refine gate_dst (N := 2) rfl ?_); refine ev_bx HS ?_; clear HS; (try clear F); intro g2 w2 HS F) | ((with_reducible refine gate_dst (N := 3) rfl ?_); refine ev_bx HS ?_; clear HS; (try clear F); intro g3 w3 HS F))
 by_cases c5 : a0.f0 = a1.f0
 case neg =>
  replace H := zneg c5 H
  have c5a := beq_eq_false_iff_ne.mpr c5
  have c5b := bne_iff_ne.mpr c5
  clear c5
  (try simp only [c5a, c5b, dcn])
  obtain rfl := zsome H
  go_wp2
  go_ret
  exact HS.pk
 replace H := zpos c5 H
 have c5a := beq_iff_eq.mpr c5
 have c5b := bne_eq_false_iff_eq.mpr c5
 clear c5
 (try simp only [c5a, c5b, dcn])
 by_cases c6 : a0.f1 = a1.f1
 case neg =>
  replace H := zneg c6 H
  have c6a := beq_eq_false_iff_ne.mpr c6
  have c6b := bne_iff_ne.mpr c6
  clear c6
  obtain rfl := zsome H
  go_wp2
  go_ret
  exact HS.pk
 replace H := zpos c6 H
 have c6a := beq_iff_eq.mpr c6
 have c6b := bne_eq_false_iff_eq.mpr c6
 clear c6
 obtain rfl := zsome H
 go_wp2
 go_ret
 exact HS.pk
/-! ### laws_eqRevS: function 110 -/
def laws_eqRevS.l0 : Nat → Int → (List S238) → (List S238) → Option (Bool)
  | 0, _, _, _ => none
  | k + 1, x5, a0, a1 => (if x5 < (a0.length : Int) then (if 0 ≤ x5 then (if x5 < (a0.length : Int) then (if x5 < (a1.length : Int) then ((laws_eqRev.f (rd_T238 a0 x5) (rd_T238 a1 x5)).bind fun t108001 => (if t108001 = true then (laws_eqRevS.l0 k (wrap64 (x5 + 1)) a0 a1) else (some false))) else none) else none) else none) else (some true))
def laws_eqRevS.f (k : Nat) (a0 : (List S238)) (a1 : (List S238)) : Option (Bool) := (if (a0.length : Int) = (a1.length : Int) then (laws_eqRevS.l0 k 0 a0 a1) else (some false))
def laws_eqRevS.T6 : Bool × List (List Nat × List Nat) := (true, [([], []), ([], []), ([0, 1], [0, 1]), ([2], [2]), ([], []), ([], []), ([4, 5], [4, 5]), ([6], [6]), ([3, 7], [3, 7]), ([8], [8])])
theorem laws_eqRevS.tT6 : rtab .any (opsOf Tryz.f110 6) = laws_eqRevS.T6 := by kernel_rfl
set_option maxHeartbeats 16000000 in
theorem laws_eqRevS.calls {k : Nat} {a0 : (List S238)} {a1 : (List S238)} {Ap0 : Option Addr} {np0 cp0 : Nat} {Ap1 : Option Addr} {np1 cp1 : Nat} {r : Bool} {w : World} (h : laws_eqRevS.f k a0 a1 = some r) (gp0 : k238.C w Ap0 np0 a0) (lp0 : np0 ≤ cp0) (gp1 : k238.C w Ap1 np1 a1) (lp1 : np1 ≤ cp1) :
    Calls Tryz.prog 110 #[.slice Ap0 np0 cp0, .slice Ap1 np1 cp1] w (fun e w' => e = .returned (.bool r) ∧ Hp noFP w w' []) := by
 obtain rfl := C_len gp0
 obtain rfl := C_len gp1
 have HS := Hp.start w
 have H := Aside0.mk h
 clear h
 unfold laws_eqRevS.f at H
 go_enter Tryz.func110, Tryz.ntmps110
 by_cases c1 : (a0.length : Int) = (a1.length : Int)
 case neg =>
  replace H := zneg c1 H
  have c1a := beq_eq_false_iff_ne.mpr c1
  have c1b := bne_iff_ne.mpr c1
  clear c1
  obtain rfl := zsome H
  go_wp2
  go_ret
  exact HS.pk
 replace H := zpos c1 H
 have c1a := beq_iff_eq.mpr c1
 have c1b := bne_eq_false_iff_eq.mpr c1
 clear c1
 go_wp2
 go_loopg [5] k (fun kq v_5 w' => ∃ (x5 : Int), v_5 = .int .i64 x5 ∧ Aside0 (laws_eqRevS.l0 kq x5 a0 a1 = some r) ∧ Aside0 (kq ≤ k) ∧ Hp noFP w w' [])
 case atStart => exact ⟨_, rfl, H, ⟨Nat.le_refl _⟩, HS⟩
 case round =>
  clear HS H; (try clear F)
  obtain ⟨x5, rfl, H, HKk4, HS⟩ := hrel
  cases gk with
  | zero => exact absurd H.out (by simp [laws_eqRevS.l0])
  | succ k4 =>
   simp only [laws_eqRevS.l0] at H
   by_cases c7 : x5 < (a0.length : Int)
   case neg =>
    replace H := zneg c7 H
    replace c7 := eq_false c7
    obtain rfl := zsome H
    go_wp2
    go_ret
    exact HS.pk
   replace H := zpos c7 H
   replace c7 := eq_true c7
   (try go_wp2)
   obtain ⟨c102001, H⟩ := zgo H
   obtain ⟨c102002, H⟩ := zgo H
   obtain ⟨ad102999, rfl, e102999_0, e102999_1⟩ := at_T238 gp0 x5 (of_eq_true c102001) (of_eq_true c102002)
   obtain ⟨c106001, H⟩ := zgo H
   obtain ⟨ad106999, rfl, e106999_0, e106999_1⟩ := at_T238 gp1 x5 (of_eq_true c102001) (of_eq_true c106001)
   replace H := zbind H; obtain ⟨t108001, ht108001, H⟩ := H
   refine dr_start [] HS #[false, false, false, false, false, false, false, false, false, false] (by kernel_rfl) rfl rfl laws_eqRevS.tT6 (fun w9 HT HS HH => ?_)
   (try clear F)
   refine drq_of [(0, some 17), (1, some 18), (2, some 19)] ?_
   repeat (refine drp HT ?_)
   refine drq_end ?_
   refine dr_take 3 (some 20) HT HH (v := ?_) (a' := ?_) rfl rfl (by kernel_rfl) (fun _ _ _ h => h) (.inl ⟨by rfl, ?_⟩) ?_ ?_
   rotate_left
   · rintro w' ⟨rs', HS'⟩; have e102999_0 := (HS'.keepc e102999_0); have e102999_1 := (HS'.keepc e102999_1); go_simp; with_reducible rfl
   rotate_left
   · simp only [Act.put, ptn]; rfl
   refine drq_of [(4, some 21), (5, some 22), (6, some 23)] ?_
   repeat (refine drp HT ?_)
   refine drq_end ?_
   refine dr_take 7 (some 24) HT HH (v := ?_) (a' := ?_) rfl rfl (by kernel_rfl) (fun _ _ _ h => h) (.inl ⟨by rfl, ?_⟩) ?_ ?_
   rotate_left
   · rintro w' ⟨rs', HS'⟩; have e106999_0 := (HS'.keepc e106999_0); have e106999_1 := (HS'.keepc e106999_1); go_simp; with_reducible rfl
   rotate_left
   · simp only [Act.put, ptn]; rfl
   refine dr1 8 HT fun K hK => ?_
   refine go_cl HS (laws_eqRev.calls ht108001.out) Tryz.func179 ?_; clear HS; (try clear F); intro wt108001 HS F
   refine nrm 25 hK ⟨_, HS⟩ (fun HH => ?_); clear hK K
   refine drq_of [(9, some 26)] ?_
   repeat (refine drp HT ?_)
   refine drq_end ?_
   refine done_ (done_of HT.out (by kernel_rfl)) ?_
   by_cases c11 : t108001 = true
   case neg =>
    replace H := zneg c11 H
    replace c11 := eq_false_of_ne_true c11
    subst c11
    (try simp only [dcn, if_true, Bool.false_eq_true, if_false])
    obtain rfl := zsome H
    go_wp2
    go_ret
    exact HS.pk
   replace H := zpos c11 H
   subst c11
   (try simp only [dcn, if_true, Bool.false_eq_true, if_false])
   go_wp2
   go_roundg k4
   case measure => have := HKk4.out; omega
   case rel => exact ⟨_, rfl, H, ⟨by have := HKk4.out; omega⟩, HS.pick [] (by decide) (by rfl)⟩
end Go.Proofs.YtacocpknielofaaGreatDoor.F
