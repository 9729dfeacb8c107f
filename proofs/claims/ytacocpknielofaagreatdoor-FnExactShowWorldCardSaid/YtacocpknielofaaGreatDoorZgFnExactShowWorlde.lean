/- Functions of the program and of the law, and that their calls do what is written here. -/
import Derived.Test.YtacocpknielofaaGreatDoorZgFnExactShowWorldc
import Derived.Test.YtacocpknielofaaGreatDoorZgFnExactShowWorldd
namespace Go.Proofs.YtacocpknielofaaGreatDoor.F
open Go.RowKit Go.Proofs.YtacocpknielofaaGreatDoorW.PrintWords Go.Proofs.YtacocpknielofaaGreatDoorW.PrintLast Go.Proofs.YtacocpknielofaaGreatDoorW.PrintMore Go.Proofs.YtacocpknielofaaGreatDoor.Z
attribute [local go_sem] max2_int min2_int max_two min_two max_three min_three max_four min_four
set_option linter.unusedVariables false
set_option linter.unusedSimpArgs false
set_option maxRecDepth 100000
/-! ### laws_toKept: function 155 -/
def laws_toKept.f (a0 : S199) : Option (S205) := (some (⟨a0.f0, a0.f1, a0.f2⟩ : S205))
set_option maxHeartbeats 16000000 in
theorem laws_toKept.calls {a0 : S199} {r : S205} {w : World} (h : laws_toKept.f a0 = some r) :
    Calls Tryz.prog 155 #[.agg #[.string a0.f0, .string a0.f1, .int .i64 a0.f2]] w (fun e w' => e = .returned (.agg #[.string r.f0, .string r.f1, .int .i64 r.f2]) ∧ Hp noFP w w' []) := by
 have HS := Hp.start w
 have H := Aside0.mk h
 clear h
 unfold laws_toKept.f at H
 go_enter Tryz.func155, Tryz.ntmps155
 obtain rfl := zsome H
 go_wp2_with (first | ((with_reducible refine gate_dst (N := 1) rfl ?_); refine ev_box rfl HS (by first | (go_simp; done) | (go_simp; rfl)) rfl ?_; clear HS; (try clear F); intro g1 w1 HS; (try simp only [hpn, hpm] at HS); have F := HS.boxes; simp only [bxn] at F) | ((with_reducible refine gate_dst (N := 2) rfl ?_); refine ev_box rfl HS (by first | (go_simp; done) | (go_simp; rfl)) rfl ?_; clear HS; (try clear F); intro g2 w2 HS; (try simp only [hpn, hpm] at HS); have F := HS.boxes; simp only [bxn] at F) | ((with_reducible refine gate_dst (N := 3) rfl ?_); refine ev_box rfl HS (by first | (go_simp; done) | (go_simp; rfl)) rfl ?_; clear HS; (try clear F); intro g3 w3 HS; (try simp only [hpn, hpm] at HS); have F := HS.boxes; simp only [bxn] at F) | ((with_reducible refine gate_store (p := 6) rfl ?_); refine ev_store rfl 2 0 HS (seg := [.string a0.f0]) rfl rfl rfl rfl rfl rfl (by kernel_rfl) (by simp [wrt]) (by simp [Value.oneCell']) ?_; clear HS; (try clear F); intro w7 HS; (try simp only [hpn, hpm] at HS); have F := HS.boxes; simp only [bxn] at F) | ((with_reducible refine gate_store (p := 9) rfl ?_); refine ev_store rfl 2 1 HS (seg := [.string a0.f1]) rfl rfl rfl rfl rfl rfl (by kernel_rfl) (by simp [wrt]) (by simp [Value.oneCell']) ?_; clear HS; (try clear F); intro w9 HS; (try simp only [hpn, hpm] at HS); have F := HS.boxes; simp only [bxn] at F) | ((with_reducible refine gate_store (p := 12) rfl ?_); refine ev_store rfl 2 2 HS (seg := [.int .i64 a0.f2]) rfl rfl rfl rfl rfl rfl (by kernel_rfl) (by simp [wrt]) (by simp [Value.oneCell']) ?_; clear HS; (try clear F); intro w11 HS; (try simp only [hpn, hpm] at HS); have F := HS.boxes; simp only [bxn] at F) | ((with_reducible refine gate_store (p := 2) rfl ?_); refine ev_store rfl 1 0 HS (seg := [.string a0.f0, .string a0.f1, .int .i64 a0.f2]) rfl rfl rfl rfl rfl rfl (by kernel_rfl) (by simp [wrt]) (by simp [Value.oneCell']) ?_; clear HS; (try clear F); intro w13 HS; (try simp only [hpn, hpm] at HS); have F := HS.boxes; simp only [bxn] at F))
 exact bodyPost_ret (results_single rfl (.cell _ _ _ _ _ rfl (HS.boxAt (i := 1) rfl) Tryz.underlying205 rfl (by kernel_rfl) .nil)) rfl ⟨rfl, HS.pick [] (by decide) (by rfl)⟩
/-! ### laws_toKeptS: function 77 -/
def laws_toKeptS.l0 : Nat → (List S205) → Int → (List S199) → Option ((List S205))
  | 0, _, _, _ => none
  | k + 1, l20, x22, a0 => (if x22 < (a0.length : Int) then (if 0 ≤ x22 then (if x22 < (a0.length : Int) then ((laws_toKept.f (rd_T199 a0 x22)).bind fun t28 => (laws_toKeptS.l0 k (l20.set (x22).toNat t28) (wrap64 (x22 + 1)) a0)) else none) else none) else (some l20))
def laws_toKeptS.f (k : Nat) (a0 : (List S199)) : Option ((List S205)) := (if 0 ≤ (a0.length : Int) then (if ((a0.length : Int)).toNat ≤ 7036874417766 then (laws_toKeptS.l0 k (List.replicate a0.length z205) 0 a0) else none) else none)
set_option maxHeartbeats 16000000 in
theorem laws_toKeptS.calls {k : Nat} {a0 : (List S199)} {Ap0 : Option Addr} {np0 cp0 : Nat} {r : (List S205)} {w : World} (h : laws_toKeptS.f k a0 = some r) (gp0 : k199.C w Ap0 np0 a0) (lp0 : np0 ≤ cp0) :
    Calls Tryz.prog 77 #[.slice Ap0 np0 cp0] w (fun e w' => ∃ v0_ : Value, e = .returned (v0_) ∧ Hp noFP w w' [.own (Zd.slice 205 q205) r [v0_]]) := by
 obtain rfl := C_len gp0
 have HS := Hp.start w
 have H := Aside0.mk h
 clear h
 unfold laws_toKeptS.f at H
 go_enter Tryz.func77, Tryz.ntmps77
 by_cases c1 : 0 ≤ (a0.length : Int)
 case neg => exact zno c1 H
 replace H := zpos c1 H
 replace c1 := eq_true c1
 by_cases c2 : ((a0.length : Int)).toNat ≤ 7036874417766
 case neg => exact zno c2 H
 replace H := zpos c2 H
 replace c2 := eq_true c2
 go_wp2_with (first | ((with_reducible refine gate_dst (N := 7) rfl ?_); refine ev_make rfl q205 z205 HS rfl (a0.length : Int) rfl rfl Tryz.underlying44 info205 rfl (by decide) (by decide) q205_zero (of_eq_true c1) (by have := of_eq_true c2; omega) ?_; clear HS; (try clear F); intro v3 w3 HS; obtain ⟨B3, d3, rfl, m3⟩ := HS.formn a0.length 0 rfl (by first | rfl | simp); (try simp only [hpn, hpm] at HS)))
 go_loopg [4] k (fun kq v_4 w' => ∃ (l20 : List S205) (x22 : Int), v_4 = .int .i64 x22 ∧ Aside0 (laws_toKeptS.l0 kq l20 x22 a0 = some r) ∧ Aside0 (kq ≤ k) ∧ Hp noFP w w' [.own (Zd.slice 205 q205) l20 [.slice B3 a0.length d3]])
 case atStart => exact ⟨_, _, rfl, H, ⟨Nat.le_refl _⟩, HS⟩
 case round =>
  clear HS H; (try clear F)
  obtain ⟨l20, x22, rfl, H, HKk19, HS⟩ := hrel
  cases gk with
  | zero => exact absurd H.out (by simp [laws_toKeptS.l0])
  | succ k19 =>
   simp only [laws_toKeptS.l0] at H
   by_cases c24 : x22 < (a0.length : Int)
   case neg =>
    replace H := zneg c24 H
    replace c24 := eq_false c24
    obtain rfl := zsome H
    go_wp2
    exact bodyPost_ret (results_single rfl (.tmp .nil)) rfl ⟨_, rfl, HS.pick [0] (by decide) (by rfl)⟩
   replace H := zpos c24 H
   replace c24 := eq_true c24
   by_cases c25 : 0 ≤ x22
   case neg => exact zno c25 H
   replace H := zpos c25 H
   replace c25 := eq_true c25
   by_cases c26 : x22 < (a0.length : Int)
   case neg => exact zno c26 H
   replace H := zpos c26 H
   replace c26 := eq_true c26
   obtain ⟨ad27, rfl, e27_0, e27_1, e27_2⟩ := at_T199 gp0 x22 (of_eq_true c25) (of_eq_true c26)
   have e27_0_27 := (HS.keepc e27_0)
   have e27_1_27 := (HS.keepc e27_1)
   have e27_2_27 := (HS.keepc e27_2)
   replace H := zbind H; obtain ⟨t28, ht28, H⟩ := H
   go_wp2_with (first | ((with_reducible refine gate_dst (N := 20) rfl ?_); refine ev_call rfl Tryz.func155 (by kernel_rfl) rfl #[.agg #[.string ((rd_T199 a0 x22).f0), .string ((rd_T199 a0 x22).f1), .int .i64 ((rd_T199 a0 x22).f2)]] rfl (by simp only [mpn]; rfl) ?_; refine (laws_toKept.calls ht28.out).mono ?_; rintro _ wt28 ⟨rfl, HQ⟩; refine ⟨_, rfl, ?_⟩; replace HS := HS.call HQ; clear HQ; (try clear F); (try simp only [hpn, hpm] at HS); obtain ⟨ad30, rfl, e30_0, e30_1, e30_2⟩ := at_T205 (HS.rd 0 rfl) x22 (of_eq_true c25) (of_eq_true c26)) | ((with_reducible refine gate_store (p := 21) rfl ?_); refine ev_set rfl q205 0 [] x22 t28 HS (seg := [.string t28.f0, .string t28.f1, .int .i64 t28.f2]) rfl (by decide) rfl rfl rfl (by first | rfl | exact (Nat.mul_one _).symm) rfl rfl (by kernel_rfl) (by simp [Value.oneCell']) ⟨of_eq_true c25, of_eq_true c26⟩ rfl (made_flat (fun _ => q205_flat _ _ _)) ?_; clear HS; (try clear F); intro w31 HS; (try simp only [hpn, hpm] at HS)))
   go_roundg k19
   case measure => have := HKk19.out; omega
   case rel => exact ⟨_, _, rfl, H, ⟨by have := HKk19.out; omega⟩, HS.pick [0] (by decide) (by rfl)⟩
/-! ### laws_toServer: function 18 -/
def laws_toServer.f (k : Nat) (a0 : S40) : Option (S46) := ((laws_toStore.f k a0.f0).bind fun t7 => ((laws_toPlanS.f k a0.f1).bind fun t14 => ((laws_toKeptS.f k a0.f5).bind fun t25 => (some (⟨(⟨t7.f0, t7.f1, t7.f2⟩ : S33), t14, a0.f2, a0.f3, a0.f4, t25⟩ : S46)))))
set_option maxHeartbeats 16000000 in
theorem laws_toServer.calls {k : Nat} {a0 : S40} {Ap0 : Option Addr} {np0 cp0 : Nat} {Ap1 : Option Addr} {np1 cp1 : Nat} {Ap2 : Option Addr} {np2 cp2 : Nat} {Ap3 : Option Addr} {np3 cp3 : Nat} {Ap4 : Option Addr} {np4 cp4 : Nat} {r : S46} {w : World} (h : laws_toServer.f k a0 = some r) (gp0 : k88.C w Ap0 np0 a0.f0.f0) (lp0 : np0 ≤ cp0) (gp1 : k75.C w Ap1 np1 a0.f0.f1) (lp1 : np1 ≤ cp1) (gp2 : k178.C w Ap2 np2 a0.f0.f2) (lp2 : np2 ≤ cp2) (gp3 : k196.C w Ap3 np3 a0.f1) (lp3 : np3 ≤ cp3) (gp4 : k199.C w Ap4 np4 a0.f5) (lp4 : np4 ≤ cp4) :
    Calls Tryz.prog 18 #[.agg #[.slice Ap0 np0 cp0, .slice Ap1 np1 cp1, .slice Ap2 np2 cp2, .slice Ap3 np3 cp3, .int .i64 a0.f2, .int .i64 a0.f3, .int .i64 a0.f4, .slice Ap4 np4 cp4]] w (fun e w' => ∃ v0_ v1_ v2_ v3_ v4_ : Value, e = .returned (.agg #[v0_, v1_, v2_, v3_, .int .i64 r.f2, .int .i64 r.f3, .int .i64 r.f4, v4_]) ∧ Hp noFP w w' [.own (Zd.slice 91 q91) r.f0.f0 [v0_], .own (Zd.slice 81 q81) r.f0.f1 [v1_], .own (Zd.slice 115 q115) r.f0.f2 [v2_], .own (Zd.slice 202 q202) r.f1 [v3_], .own (Zd.slice 205 q205) r.f5 [v4_]]) := by
 obtain rfl := C_len gp0
 obtain rfl := C_len gp1
 obtain rfl := C_len gp2
 obtain rfl := C_len gp3
 obtain rfl := C_len gp4
 have HS := Hp.start w
 have H := Aside0.mk h
 clear h
 unfold laws_toServer.f at H
 go_enter Tryz.func18, Tryz.ntmps18
 replace H := zbind H; obtain ⟨t7, ht7, H⟩ := H
 replace H := zbind H; obtain ⟨t14, ht14, H⟩ := H
 replace H := zbind H; obtain ⟨t25, ht25, H⟩ := H
 obtain rfl := zsome H
 go_wp2_with (first | ((with_reducible refine gate_dst (N := 1) rfl ?_); refine ev_box rfl HS (by first | (go_simp; done) | (go_simp; rfl)) rfl ?_; clear HS; (try clear F); intro g1 w1 HS; (try simp only [hpn, hpm] at HS); have F := HS.boxes; simp only [bxn] at F) | ((with_reducible refine gate_dst (N := 2) rfl ?_); refine ev_box rfl HS (by first | (go_simp; done) | (go_simp; rfl)) rfl ?_; clear HS; (try clear F); intro g2 w2 HS; (try simp only [hpn, hpm] at HS); have F := HS.boxes; simp only [bxn] at F) | ((with_reducible refine gate_dst (N := 3) rfl ?_); refine ev_box rfl HS (by first | (go_simp; done) | (go_simp; rfl)) rfl ?_; clear HS; (try clear F); intro g3 w3 HS; (try simp only [hpn, hpm] at HS); have F := HS.boxes; simp only [bxn] at F) | ((with_reducible refine gate_dst (N := 6) rfl ?_); refine ev_call rfl Tryz.func13 (by kernel_rfl) rfl #[.agg #[.slice Ap0 a0.f0.f0.length cp0, .slice Ap1 a0.f0.f1.length cp1, .slice Ap2 a0.f0.f2.length cp2]] rfl (by simp only [mpn]; rfl) ?_; refine (laws_toStore.calls ht7.out (HS.ro gp0) lp0 (HS.ro gp1) lp1 (HS.ro gp2) lp2).mono ?_; rintro _ wt7 ⟨v8, v9, v10, rfl, HQ⟩; refine ⟨_, rfl, ?_⟩; replace HS := HS.call HQ; clear HQ; (try clear F); obtain ⟨B8, d8, rfl, m8⟩ := HS.form 3 rfl; obtain ⟨B9, d9, rfl, m9⟩ := HS.form 4 rfl; obtain ⟨B10, d10, rfl, m10⟩ := HS.form 5 rfl; (try simp only [hpn, hpm] at HS); have F := HS.boxes; simp only [bxn] at F) | ((with_reducible refine gate_store (p := 7) rfl ?_); refine ev_store rfl 2 0 HS (seg := [.slice B8 t7.f0.length d8, .slice B9 t7.f1.length d9, .slice B10 t7.f2.length d10]) rfl rfl rfl rfl rfl rfl (by kernel_rfl) (by simp [wrt]) (by simp [Value.oneCell']) ?_; clear HS; (try clear F); intro w12 HS; (try simp only [hpn, hpm] at HS); have F := HS.boxes; simp only [bxn] at F) | ((with_reducible refine gate_dst (N := 10) rfl ?_); refine ev_call rfl Tryz.func76 (by kernel_rfl) rfl #[.slice Ap3 a0.f1.length cp3] rfl (by simp only [mpn]; rfl) ?_; refine (laws_toPlanS.calls ht14.out (HS.ro gp3) lp3).mono ?_; rintro _ wt14 ⟨v15, rfl, HQ⟩; refine ⟨_, rfl, ?_⟩; replace HS := HS.call HQ; clear HQ; (try clear F); obtain ⟨B15, d15, rfl, m15⟩ := HS.form 6 rfl; (try simp only [hpn, hpm] at HS); have F := HS.boxes; simp only [bxn] at F) | ((with_reducible refine gate_store (p := 11) rfl ?_); refine ev_store rfl 2 3 HS (seg := [.slice B15 t14.length d15]) rfl rfl rfl rfl rfl rfl (by kernel_rfl) (by simp [wrt]) (by simp [Value.oneCell']) ?_; clear HS; (try clear F); intro w17 HS; (try simp only [hpn, hpm] at HS); have F := HS.boxes; simp only [bxn] at F) | ((with_reducible refine gate_store (p := 14) rfl ?_); refine ev_store rfl 2 4 HS (seg := [.int .i64 a0.f2]) rfl rfl rfl rfl rfl rfl (by kernel_rfl) (by simp [wrt]) (by simp [Value.oneCell']) ?_; clear HS; (try clear F); intro w19 HS; (try simp only [hpn, hpm] at HS); have F := HS.boxes; simp only [bxn] at F) | ((with_reducible refine gate_store (p := 17) rfl ?_); refine ev_store rfl 2 5 HS (seg := [.int .i64 a0.f3]) rfl rfl rfl rfl rfl rfl (by kernel_rfl) (by simp [wrt]) (by simp [Value.oneCell']) ?_; clear HS; (try clear F); intro w21 HS; (try simp only [hpn, hpm] at HS); have F := HS.boxes; simp only [bxn] at F) | ((with_reducible refine gate_store (p := 20) rfl ?_); refine ev_store rfl 2 6 HS (seg := [.int .i64 a0.f4]) rfl rfl rfl rfl rfl rfl (by kernel_rfl) (by simp [wrt]) (by simp [Value.oneCell']) ?_; clear HS; (try clear F); intro w23 HS; (try simp only [hpn, hpm] at HS); have F := HS.boxes; simp only [bxn] at F) | ((with_reducible refine gate_dst (N := 23) rfl ?_); refine ev_call rfl Tryz.func77 (by kernel_rfl) rfl #[.slice Ap4 a0.f5.length cp4] rfl (by simp only [mpn]; rfl) ?_; refine (laws_toKeptS.calls ht25.out (HS.ro gp4) lp4).mono ?_; rintro _ wt25 ⟨v26, rfl, HQ⟩; refine ⟨_, rfl, ?_⟩; replace HS := HS.call HQ; clear HQ; (try clear F); obtain ⟨B26, d26, rfl, m26⟩ := HS.form 7 rfl; (try simp only [hpn, hpm] at HS); have F := HS.boxes; simp only [bxn] at F) | ((with_reducible refine gate_store (p := 24) rfl ?_); refine ev_store rfl 2 7 HS (seg := [.slice B26 t25.length d26]) rfl rfl rfl rfl rfl rfl (by kernel_rfl) (by simp [wrt]) (by simp [Value.oneCell']) ?_; clear HS; (try clear F); intro w28 HS; (try simp only [hpn, hpm] at HS); have F := HS.boxes; simp only [bxn] at F) | ((with_reducible refine gate_store (p := 2) rfl ?_); refine ev_store rfl 1 0 HS (seg := [.slice B8 t7.f0.length d8, .slice B9 t7.f1.length d9, .slice B10 t7.f2.length d10, .slice B15 t14.length d15, .int .i64 a0.f2, .int .i64 a0.f3, .int .i64 a0.f4, .slice B26 t25.length d26]) rfl rfl rfl rfl rfl rfl (by kernel_rfl) (by simp [wrt]) (by simp [Value.oneCell']) ?_; clear HS; (try clear F); intro w30 HS; (try simp only [hpn, hpm] at HS); have F := HS.boxes; simp only [bxn] at F))
 exact bodyPost_ret (results_single rfl (.cell _ _ _ _ _ rfl (HS.boxAt (i := 1) rfl) Tryz.underlying46 rfl (by kernel_rfl) .nil)) rfl ⟨_, _, _, _, _, rfl, HS.pick [3, 4, 5, 6, 7] (by decide) (by rfl)⟩
/-! ### laws_toWait: function 215 -/
def laws_toWait.f (a0 : S265) : Option (S274) := (some (⟨a0.f0, a0.f1, a0.f2, a0.f3⟩ : S274))
set_option maxHeartbeats 16000000 in
theorem laws_toWait.calls {a0 : S265} {r : S274} {w : World} (h : laws_toWait.f a0 = some r) :
    Calls Tryz.prog 215 #[.agg #[.int .i64 a0.f0, .int .i64 a0.f1, .string a0.f2, .int .i64 a0.f3]] w (fun e w' => e = .returned (.agg #[.int .i64 r.f0, .int .i64 r.f1, .string r.f2, .int .i64 r.f3]) ∧ Hp noFP w w' []) := by
 have HS := Hp.start w
 have H := Aside0.mk h
 clear h
 unfold laws_toWait.f at H
 go_enter Tryz.func215, Tryz.ntmps215
 obtain rfl := zsome H
 go_wp2_with (first | ((with_reducible refine gate_dst (N := 1) rfl ?_); refine ev_box rfl HS (by first | (go_simp; done) | (go_simp; rfl)) rfl ?_; clear HS; (try clear F); intro g1 w1 HS; (try simp only [hpn, hpm] at HS); have F := HS.boxes; simp only [bxn] at F) | ((with_reducible refine gate_dst (N := 2) rfl ?_); refine ev_box rfl HS (by first | (go_simp; done) | (go_simp; rfl)) rfl ?_; clear HS; (try clear F); intro g2 w2 HS; (try simp only [hpn, hpm] at HS); have F := HS.boxes; simp only [bxn] at F) | ((with_reducible refine gate_dst (N := 3) rfl ?_); refine ev_box rfl HS (by first | (go_simp; done) | (go_simp; rfl)) rfl ?_; clear HS; (try clear F); intro g3 w3 HS; (try simp only [hpn, hpm] at HS); have F := HS.boxes; simp only [bxn] at F) | ((with_reducible refine gate_store (p := 6) rfl ?_); refine ev_store rfl 2 0 HS (seg := [.int .i64 a0.f0]) rfl rfl rfl rfl rfl rfl (by kernel_rfl) (by simp [wrt]) (by simp [Value.oneCell']) ?_; clear HS; (try clear F); intro w7 HS; (try simp only [hpn, hpm] at HS); have F := HS.boxes; simp only [bxn] at F) | ((with_reducible refine gate_store (p := 9) rfl ?_); refine ev_store rfl 2 1 HS (seg := [.int .i64 a0.f1]) rfl rfl rfl rfl rfl rfl (by kernel_rfl) (by simp [wrt]) (by simp [Value.oneCell']) ?_; clear HS; (try clear F); intro w9 HS; (try simp only [hpn, hpm] at HS); have F := HS.boxes; simp only [bxn] at F) | ((with_reducible refine gate_store (p := 12) rfl ?_); refine ev_store rfl 2 2 HS (seg := [.string a0.f2]) rfl rfl rfl rfl rfl rfl (by kernel_rfl) (by simp [wrt]) (by simp [Value.oneCell']) ?_; clear HS; (try clear F); intro w11 HS; (try simp only [hpn, hpm] at HS); have F := HS.boxes; simp only [bxn] at F) | ((with_reducible refine gate_store (p := 15) rfl ?_); refine ev_store rfl 2 3 HS (seg := [.int .i64 a0.f3]) rfl rfl rfl rfl rfl rfl (by kernel_rfl) (by simp [wrt]) (by simp [Value.oneCell']) ?_; clear HS; (try clear F); intro w13 HS; (try simp only [hpn, hpm] at HS); have F := HS.boxes; simp only [bxn] at F) | ((with_reducible refine gate_store (p := 2) rfl ?_); refine ev_store rfl 1 0 HS (seg := [.int .i64 a0.f0, .int .i64 a0.f1, .string a0.f2, .int .i64 a0.f3]) rfl rfl rfl rfl rfl rfl (by kernel_rfl) (by simp [wrt]) (by simp [Value.oneCell']) ?_; clear HS; (try clear F); intro w15 HS; (try simp only [hpn, hpm] at HS); have F := HS.boxes; simp only [bxn] at F))
 exact bodyPost_ret (results_single rfl (.cell _ _ _ _ _ rfl (HS.boxAt (i := 1) rfl) Tryz.underlying274 rfl (by kernel_rfl) .nil)) rfl ⟨rfl, HS.pick [] (by decide) (by rfl)⟩
/-! ### laws_toWaitS: function 165 -/
def laws_toWaitS.l0 : Nat → (List S274) → Int → (List S265) → Option ((List S274))
  | 0, _, _, _ => none
  | k + 1, l20, x22, a0 => (if x22 < (a0.length : Int) then (if 0 ≤ x22 then (if x22 < (a0.length : Int) then ((laws_toWait.f (rd_T265 a0 x22)).bind fun t28 => (laws_toWaitS.l0 k (l20.set (x22).toNat t28) (wrap64 (x22 + 1)) a0)) else none) else none) else (some l20))
def laws_toWaitS.f (k : Nat) (a0 : (List S265)) : Option ((List S274)) := (if 0 ≤ (a0.length : Int) then (if ((a0.length : Int)).toNat ≤ 7036874417766 then (laws_toWaitS.l0 k (List.replicate a0.length z274) 0 a0) else none) else none)
set_option maxHeartbeats 16000000 in
theorem laws_toWaitS.calls {k : Nat} {a0 : (List S265)} {Ap0 : Option Addr} {np0 cp0 : Nat} {r : (List S274)} {w : World} (h : laws_toWaitS.f k a0 = some r) (gp0 : k265.C w Ap0 np0 a0) (lp0 : np0 ≤ cp0) :
    Calls Tryz.prog 165 #[.slice Ap0 np0 cp0] w (fun e w' => ∃ v0_ : Value, e = .returned (v0_) ∧ Hp noFP w w' [.own (Zd.slice 274 q274) r [v0_]]) := by
 obtain rfl := C_len gp0
 have HS := Hp.start w
 have H := Aside0.mk h
 clear h
 unfold laws_toWaitS.f at H
 go_enter Tryz.func165, Tryz.ntmps165
 by_cases c1 : 0 ≤ (a0.length : Int)
 case neg => exact zno c1 H
 replace H := zpos c1 H
 replace c1 := eq_true c1
 by_cases c2 : ((a0.length : Int)).toNat ≤ 7036874417766
 case neg => exact zno c2 H
 replace H := zpos c2 H
 replace c2 := eq_true c2
 go_wp2_with (first | ((with_reducible refine gate_dst (N := 7) rfl ?_); refine ev_make rfl q274 z274 HS rfl (a0.length : Int) rfl rfl Tryz.underlying62 info274 rfl (by decide) (by decide) q274_zero (of_eq_true c1) (by have := of_eq_true c2; omega) ?_; clear HS; (try clear F); intro v3 w3 HS; obtain ⟨B3, d3, rfl, m3⟩ := HS.formn a0.length 0 rfl (by first | rfl | simp); (try simp only [hpn, hpm] at HS)))
 go_loopg [4] k (fun kq v_4 w' => ∃ (l20 : List S274) (x22 : Int), v_4 = .int .i64 x22 ∧ Aside0 (laws_toWaitS.l0 kq l20 x22 a0 = some r) ∧ Aside0 (kq ≤ k) ∧ Hp noFP w w' [.own (Zd.slice 274 q274) l20 [.slice B3 a0.length d3]])
 case atStart => exact ⟨_, _, rfl, H, ⟨Nat.le_refl _⟩, HS⟩
 case round =>
  clear HS H; (try clear F)
  obtain ⟨l20, x22, rfl, H, HKk19, HS⟩ := hrel
  cases gk with
  | zero => exact absurd H.out (by simp [laws_toWaitS.l0])
  | succ k19 =>
   simp only [laws_toWaitS.l0] at H
   by_cases c24 : x22 < (a0.length : Int)
   case neg =>
    replace H := zneg c24 H
    replace c24 := eq_false c24
    obtain rfl := zsome H
    go_wp2
    exact bodyPost_ret (results_single rfl (.tmp .nil)) rfl ⟨_, rfl, HS.pick [0] (by decide) (by rfl)⟩
   replace H := zpos c24 H
   replace c24 := eq_true c24
   by_cases c25 : 0 ≤ x22
   case neg => exact zno c25 H
   replace H := zpos c25 H
   replace c25 := eq_true c25
   by_cases c26 : x22 < (a0.length : Int)
   case neg => exact zno c26 H
   replace H := zpos c26 H
   replace c26 := eq_true c26
   obtain ⟨ad27, rfl, e27_0, e27_1, e27_2, e27_3⟩ := at_T265 gp0 x22 (of_eq_true c25) (of_eq_true c26)
   have e27_0_27 := (HS.keepc e27_0)
   have e27_1_27 := (HS.keepc e27_1)
   have e27_2_27 := (HS.keepc e27_2)
   have e27_3_27 := (HS.keepc e27_3)
   replace H := zbind H; obtain ⟨t28, ht28, H⟩ := H
   go_wp2_with (first | ((with_reducible refine gate_dst (N := 20) rfl ?_); refine ev_call rfl Tryz.func215 (by kernel_rfl) rfl #[.agg #[.int .i64 ((rd_T265 a0 x22).f0), .int .i64 ((rd_T265 a0 x22).f1), .string ((rd_T265 a0 x22).f2), .int .i64 ((rd_T265 a0 x22).f3)]] rfl (by simp only [mpn]; rfl) ?_; refine (laws_toWait.calls ht28.out).mono ?_; rintro _ wt28 ⟨rfl, HQ⟩; refine ⟨_, rfl, ?_⟩; replace HS := HS.call HQ; clear HQ; (try clear F); (try simp only [hpn, hpm] at HS); obtain ⟨ad30, rfl, e30_0, e30_1, e30_2, e30_3⟩ := at_T274 (HS.rd 0 rfl) x22 (of_eq_true c25) (of_eq_true c26)) | ((with_reducible refine gate_store (p := 21) rfl ?_); refine ev_set rfl q274 0 [] x22 t28 HS (seg := [.int .i64 t28.f0, .int .i64 t28.f1, .string t28.f2, .int .i64 t28.f3]) rfl (by decide) rfl rfl rfl (by first | rfl | exact (Nat.mul_one _).symm) rfl rfl (by kernel_rfl) (by simp [Value.oneCell']) ⟨of_eq_true c25, of_eq_true c26⟩ rfl (made_flat (fun _ => q274_flat _ _ _)) ?_; clear HS; (try clear F); intro w31 HS; (try simp only [hpn, hpm] at HS)))
   go_roundg k19
   case measure => have := HKk19.out; omega
   case rel => exact ⟨_, _, rfl, H, ⟨by have := HKk19.out; omega⟩, HS.pick [0] (by decide) (by rfl)⟩
/-! ### laws_toAnswer: function 252 -/
def laws_toAnswer.f (k : Nat) (a0 : S304) : Option (S273) := ((laws_toStringS.f k a0.f2).bind fun t11 => ((laws_toStringS.f k a0.f3).bind fun t16 => (some (⟨a0.f0, a0.f1, t11, t16⟩ : S273))))
set_option maxHeartbeats 16000000 in
theorem laws_toAnswer.calls {k : Nat} {a0 : S304} {Ap0 : Option Addr} {np0 cp0 : Nat} {Ap1 : Option Addr} {np1 cp1 : Nat} {r : S273} {w : World} (h : laws_toAnswer.f k a0 = some r) (gp0 : Kd.string.C w Ap0 np0 a0.f2) (lp0 : np0 ≤ cp0) (gp1 : Kd.string.C w Ap1 np1 a0.f3) (lp1 : np1 ≤ cp1) :
    Calls Tryz.prog 252 #[.agg #[.int .i64 a0.f0, .int .i64 a0.f1, .slice Ap0 np0 cp0, .slice Ap1 np1 cp1]] w (fun e w' => ∃ v0_ v1_ : Value, e = .returned (.agg #[.int .i64 r.f0, .int .i64 r.f1, v0_, v1_]) ∧ Hp noFP w w' [.own (Zd.slice 9 Zd.string) r.f2 [v0_], .own (Zd.slice 9 Zd.string) r.f3 [v1_]]) := by
 obtain rfl := C_len gp0
 obtain rfl := C_len gp1
 have HS := Hp.start w
 have H := Aside0.mk h
 clear h
 unfold laws_toAnswer.f at H
 go_enter Tryz.func252, Tryz.ntmps252
 replace H := zbind H; obtain ⟨t11, ht11, H⟩ := H
 replace H := zbind H; obtain ⟨t16, ht16, H⟩ := H
 obtain rfl := zsome H
 go_wp2_with (first | ((with_reducible refine gate_dst (N := 1) rfl ?_); refine ev_box rfl HS (by first | (go_simp; done) | (go_simp; rfl)) rfl ?_; clear HS; (try clear F); intro g1 w1 HS; (try simp only [hpn, hpm] at HS); have F := HS.boxes; simp only [bxn] at F) | ((with_reducible refine gate_dst (N := 2) rfl ?_); refine ev_box rfl HS (by first | (go_simp; done) | (go_simp; rfl)) rfl ?_; clear HS; (try clear F); intro g2 w2 HS; (try simp only [hpn, hpm] at HS); have F := HS.boxes; simp only [bxn] at F) | ((with_reducible refine gate_dst (N := 3) rfl ?_); refine ev_box rfl HS (by first | (go_simp; done) | (go_simp; rfl)) rfl ?_; clear HS; (try clear F); intro g3 w3 HS; (try simp only [hpn, hpm] at HS); have F := HS.boxes; simp only [bxn] at F) | ((with_reducible refine gate_store (p := 6) rfl ?_); refine ev_store rfl 2 0 HS (seg := [.int .i64 a0.f0]) rfl rfl rfl rfl rfl rfl (by kernel_rfl) (by simp [wrt]) (by simp [Value.oneCell']) ?_; clear HS; (try clear F); intro w7 HS; (try simp only [hpn, hpm] at HS); have F := HS.boxes; simp only [bxn] at F) | ((with_reducible refine gate_store (p := 9) rfl ?_); refine ev_store rfl 2 1 HS (seg := [.int .i64 a0.f1]) rfl rfl rfl rfl rfl rfl (by kernel_rfl) (by simp [wrt]) (by simp [Value.oneCell']) ?_; clear HS; (try clear F); intro w9 HS; (try simp only [hpn, hpm] at HS); have F := HS.boxes; simp only [bxn] at F) | ((with_reducible refine gate_dst (N := 12) rfl ?_); refine ev_call rfl Tryz.func95 (by kernel_rfl) rfl #[.slice Ap0 a0.f2.length cp0] rfl (by simp only [mpn]; rfl) ?_; refine (laws_toStringS.calls ht11.out (HS.ro gp0) lp0).mono ?_; rintro _ wt11 ⟨v12, rfl, HQ⟩; refine ⟨_, rfl, ?_⟩; replace HS := HS.call HQ; clear HQ; (try clear F); obtain ⟨B12, d12, rfl, m12⟩ := HS.form 3 rfl; (try simp only [hpn, hpm] at HS); have F := HS.boxes; simp only [bxn] at F) | ((with_reducible refine gate_store (p := 13) rfl ?_); refine ev_store rfl 2 2 HS (seg := [.slice B12 t11.length d12]) rfl rfl rfl rfl rfl rfl (by kernel_rfl) (by simp [wrt]) (by simp [Value.oneCell']) ?_; clear HS; (try clear F); intro w14 HS; (try simp only [hpn, hpm] at HS); have F := HS.boxes; simp only [bxn] at F) | ((with_reducible refine gate_dst (N := 16) rfl ?_); refine ev_call rfl Tryz.func95 (by kernel_rfl) rfl #[.slice Ap1 a0.f3.length cp1] rfl (by simp only [mpn]; rfl) ?_; refine (laws_toStringS.calls ht16.out (HS.ro gp1) lp1).mono ?_; rintro _ wt16 ⟨v17, rfl, HQ⟩; refine ⟨_, rfl, ?_⟩; replace HS := HS.call HQ; clear HQ; (try clear F); obtain ⟨B17, d17, rfl, m17⟩ := HS.form 4 rfl; (try simp only [hpn, hpm] at HS); have F := HS.boxes; simp only [bxn] at F) | ((with_reducible refine gate_store (p := 17) rfl ?_); refine ev_store rfl 2 3 HS (seg := [.slice B17 t16.length d17]) rfl rfl rfl rfl rfl rfl (by kernel_rfl) (by simp [wrt]) (by simp [Value.oneCell']) ?_; clear HS; (try clear F); intro w19 HS; (try simp only [hpn, hpm] at HS); have F := HS.boxes; simp only [bxn] at F) | ((with_reducible refine gate_store (p := 2) rfl ?_); refine ev_store rfl 1 0 HS (seg := [.int .i64 a0.f0, .int .i64 a0.f1, .slice B12 t11.length d12, .slice B17 t16.length d17]) rfl rfl rfl rfl rfl rfl (by kernel_rfl) (by simp [wrt]) (by simp [Value.oneCell']) ?_; clear HS; (try clear F); intro w21 HS; (try simp only [hpn, hpm] at HS); have F := HS.boxes; simp only [bxn] at F))
 exact bodyPost_ret (results_single rfl (.cell _ _ _ _ _ rfl (HS.boxAt (i := 1) rfl) Tryz.underlying273 rfl (by kernel_rfl) .nil)) rfl ⟨_, _, rfl, HS.pick [3, 4] (by decide) (by rfl)⟩
/-! ### laws_toAnswerS: function 240 -/
def laws_toAnswerS.l0 : Nat → (List S273) → Int → (List S304) → Option ((List S273))
  | 0, _, _, _ => none
  | k + 1, l22, x24, a0 => (if x24 < (a0.length : Int) then (if 0 ≤ x24 then (if x24 < (a0.length : Int) then ((laws_toAnswer.f k (rd_T304 a0 x24)).bind fun t30 => (laws_toAnswerS.l0 k (l22.set (x24).toNat t30) (wrap64 (x24 + 1)) a0)) else none) else none) else (some l22))
def laws_toAnswerS.f (k : Nat) (a0 : (List S304)) : Option ((List S273)) := (if 0 ≤ (a0.length : Int) then (if ((a0.length : Int)).toNat ≤ 4398046511104 then (laws_toAnswerS.l0 k (List.replicate a0.length z273) 0 a0) else none) else none)
set_option maxHeartbeats 16000000 in
theorem laws_toAnswerS.calls {k : Nat} {a0 : (List S304)} {Ap0 : Option Addr} {np0 cp0 : Nat} {r : (List S273)} {w : World} (h : laws_toAnswerS.f k a0 = some r) (gp0 : k304.C w Ap0 np0 a0) (lp0 : np0 ≤ cp0) :
    Calls Tryz.prog 240 #[.slice Ap0 np0 cp0] w (fun e w' => ∃ v0_ : Value, e = .returned (v0_) ∧ Hp noFP w w' [.own (Zd.slice 273 q273) r [v0_]]) := by
 obtain rfl := C_len gp0
 have HS := Hp.start w
 have H := Aside0.mk h
 clear h
 unfold laws_toAnswerS.f at H
 go_enter Tryz.func240, Tryz.ntmps240
 by_cases c1 : 0 ≤ (a0.length : Int)
 case neg => exact zno c1 H
 replace H := zpos c1 H
 replace c1 := eq_true c1
 by_cases c2 : ((a0.length : Int)).toNat ≤ 4398046511104
 case neg => exact zno c2 H
 replace H := zpos c2 H
 replace c2 := eq_true c2
 go_wp2_with (first | ((with_reducible refine gate_dst (N := 7) rfl ?_); refine ev_make rfl q273 z273 HS rfl (a0.length : Int) rfl rfl Tryz.underlying219 info273 rfl (by decide) (by decide) q273_zero (of_eq_true c1) (by have := of_eq_true c2; omega) ?_; clear HS; (try clear F); intro v3 w3 HS; obtain ⟨B3, d3, rfl, m3⟩ := HS.formn a0.length 0 rfl (by first | rfl | simp); (try simp only [hpn, hpm] at HS)))
 go_loopg [4] k (fun kq v_4 w' => ∃ (l22 : List S273) (x24 : Int), v_4 = .int .i64 x24 ∧ Aside0 (laws_toAnswerS.l0 kq l22 x24 a0 = some r) ∧ Aside0 (kq ≤ k) ∧ Hp noFP w w' [.own (Zd.slice 273 q273) l22 [.slice B3 a0.length d3]])
 case atStart => exact ⟨_, _, rfl, H, ⟨Nat.le_refl _⟩, HS⟩
 case round =>
  clear HS H; (try clear F)
  obtain ⟨l22, x24, rfl, H, HKk21, HS⟩ := hrel
  cases gk with
  | zero => exact absurd H.out (by simp [laws_toAnswerS.l0])
  | succ k21 =>
   simp only [laws_toAnswerS.l0] at H
   by_cases c26 : x24 < (a0.length : Int)
   case neg =>
    replace H := zneg c26 H
    replace c26 := eq_false c26
    obtain rfl := zsome H
    go_wp2
    exact bodyPost_ret (results_single rfl (.tmp .nil)) rfl ⟨_, rfl, HS.pick [0] (by decide) (by rfl)⟩
   replace H := zpos c26 H
   replace c26 := eq_true c26
   by_cases c27 : 0 ≤ x24
   case neg => exact zno c27 H
   replace H := zpos c27 H
   replace c27 := eq_true c27
   by_cases c28 : x24 < (a0.length : Int)
   case neg => exact zno c28 H
   replace H := zpos c28 H
   replace c28 := eq_true c28
   obtain ⟨ad29, B29_2, d29_2, B29_3, d29_3, rfl, e29_0, e29_1, e29_2, e29_3, m29_2, y29_2, m29_3, y29_3⟩ := at_T304 gp0 x24 (of_eq_true c27) (of_eq_true c28)
   have e29_0_29 := (HS.keepc e29_0)
   have e29_1_29 := (HS.keepc e29_1)
   have e29_2_29 := (HS.keepc e29_2)
   have e29_3_29 := (HS.keepc e29_3)
   replace H := zbind H; obtain ⟨t30, ht30, H⟩ := H
   go_wp2_with (first | ((with_reducible refine gate_dst (N := 20) rfl ?_); refine ev_call rfl Tryz.func252 (by kernel_rfl) rfl #[.agg #[.int .i64 ((rd_T304 a0 x24).f0), .int .i64 ((rd_T304 a0 x24).f1), .slice B29_2 (rd_T304 a0 x24).f2.length d29_2, .slice B29_3 (rd_T304 a0 x24).f3.length d29_3]] rfl (by simp only [mpn]; rfl) ?_; refine (laws_toAnswer.calls ht30.out (HS.ro y29_2) m29_2 (HS.ro y29_3) m29_3).mono ?_; rintro _ wt30 ⟨v31, v32, rfl, HQ⟩; refine ⟨_, rfl, ?_⟩; replace HS := HS.call HQ; clear HQ; (try clear F); obtain ⟨B31, d31, rfl, m31⟩ := HS.form 1 rfl; obtain ⟨B32, d32, rfl, m32⟩ := HS.form 2 rfl; (try simp only [hpn, hpm] at HS); obtain ⟨ad34, B34_2, d34_2, B34_3, d34_3, rfl, e34_0, e34_1, e34_2, e34_3, m34_2, y34_2, m34_3, y34_3⟩ := at_T273 (HS.rd 0 rfl) x24 (of_eq_true c27) (of_eq_true c28)) | ((with_reducible refine gate_store (p := 21) rfl ?_); refine ev_set rfl q273 0 [1, 2] x24 t30 HS (seg := [.int .i64 t30.f0, .int .i64 t30.f1, .slice B31 t30.f2.length d31, .slice B32 t30.f3.length d32]) rfl (by decide) rfl rfl rfl (by first | rfl | exact (Nat.mul_one _).symm) rfl rfl (by kernel_rfl) (by simp [Value.oneCell']) ⟨of_eq_true c27, of_eq_true c28⟩ rfl (fun S hd hh => q273_pack (x := t30) hd (hh 1 (.own (Zd.slice 9 Zd.string) t30.f2 [.slice B31 t30.f2.length d31]) rfl) (hh 2 (.own (Zd.slice 9 Zd.string) t30.f3 [.slice B32 t30.f3.length d32]) rfl) (by decide)) ?_; clear HS; (try clear F); intro w35 HS; (try simp only [hpn, hpm] at HS)))
   go_roundg k21
   case measure => have := HKk21.out; omega
   case rel => exact ⟨_, _, rfl, H, ⟨by have := HKk21.out; omega⟩, HS.pick [0] (by decide) (by rfl)⟩
/-! ### laws_toReply: function 230 -/
def laws_toReply.f (k : Nat) (a0 : S269) : Option (S221) := ((laws_toAnswerS.f k a0.f6).bind fun t19 => (some (⟨a0.f0, a0.f1, a0.f2, a0.f3, a0.f4, a0.f5, t19, a0.f7⟩ : S221)))
set_option maxHeartbeats 16000000 in
theorem laws_toReply.calls {k : Nat} {a0 : S269} {Ap0 : Option Addr} {np0 cp0 : Nat} {r : S221} {w : World} (h : laws_toReply.f k a0 = some r) (gp0 : k304.C w Ap0 np0 a0.f6) (lp0 : np0 ≤ cp0) :
    Calls Tryz.prog 230 #[.agg #[.string a0.f0, .int .i64 a0.f1, .int .i64 a0.f2, .int .i64 a0.f3, .int .i64 a0.f4, .int .i64 a0.f5, .slice Ap0 np0 cp0, .string a0.f7]] w (fun e w' => ∃ v0_ : Value, e = .returned (.agg #[.string r.f0, .int .i64 r.f1, .int .i64 r.f2, .int .i64 r.f3, .int .i64 r.f4, .int .i64 r.f5, v0_, .string r.f7]) ∧ Hp noFP w w' [.own (Zd.slice 273 q273) r.f6 [v0_]]) := by
 obtain rfl := C_len gp0
 have HS := Hp.start w
 have H := Aside0.mk h
 clear h
 unfold laws_toReply.f at H
 go_enter Tryz.func230, Tryz.ntmps230
 replace H := zbind H; obtain ⟨t19, ht19, H⟩ := H
 obtain rfl := zsome H
 go_wp2_with (first | ((with_reducible refine gate_dst (N := 1) rfl ?_); refine ev_box rfl HS (by first | (go_simp; done) | (go_simp; rfl)) rfl ?_; clear HS; (try clear F); intro g1 w1 HS; (try simp only [hpn, hpm] at HS); have F := HS.boxes; simp only [bxn] at F) | ((with_reducible refine gate_dst (N := 2) rfl ?_); refine ev_box rfl HS (by first | (go_simp; done) | (go_simp; rfl)) rfl ?_; clear HS; (try clear F); intro g2 w2 HS; (try simp only [hpn, hpm] at HS); have F := HS.boxes; simp only [bxn] at F) | ((with_reducible refine gate_dst (N := 3) rfl ?_); refine ev_box rfl HS (by first | (go_simp; done) | (go_simp; rfl)) rfl ?_; clear HS; (try clear F); intro g3 w3 HS; (try simp only [hpn, hpm] at HS); have F := HS.boxes; simp only [bxn] at F) | ((with_reducible refine gate_store (p := 6) rfl ?_); refine ev_store rfl 2 0 HS (seg := [.string a0.f0]) rfl rfl rfl rfl rfl rfl (by kernel_rfl) (by simp [wrt]) (by simp [Value.oneCell']) ?_; clear HS; (try clear F); intro w7 HS; (try simp only [hpn, hpm] at HS); have F := HS.boxes; simp only [bxn] at F) | ((with_reducible refine gate_store (p := 9) rfl ?_); refine ev_store rfl 2 1 HS (seg := [.int .i64 a0.f1]) rfl rfl rfl rfl rfl rfl (by kernel_rfl) (by simp [wrt]) (by simp [Value.oneCell']) ?_; clear HS; (try clear F); intro w9 HS; (try simp only [hpn, hpm] at HS); have F := HS.boxes; simp only [bxn] at F) | ((with_reducible refine gate_store (p := 12) rfl ?_); refine ev_store rfl 2 2 HS (seg := [.int .i64 a0.f2]) rfl rfl rfl rfl rfl rfl (by kernel_rfl) (by simp [wrt]) (by simp [Value.oneCell']) ?_; clear HS; (try clear F); intro w11 HS; (try simp only [hpn, hpm] at HS); have F := HS.boxes; simp only [bxn] at F) | ((with_reducible refine gate_store (p := 15) rfl ?_); refine ev_store rfl 2 3 HS (seg := [.int .i64 a0.f3]) rfl rfl rfl rfl rfl rfl (by kernel_rfl) (by simp [wrt]) (by simp [Value.oneCell']) ?_; clear HS; (try clear F); intro w13 HS; (try simp only [hpn, hpm] at HS); have F := HS.boxes; simp only [bxn] at F) | ((with_reducible refine gate_store (p := 18) rfl ?_); refine ev_store rfl 2 4 HS (seg := [.int .i64 a0.f4]) rfl rfl rfl rfl rfl rfl (by kernel_rfl) (by simp [wrt]) (by simp [Value.oneCell']) ?_; clear HS; (try clear F); intro w15 HS; (try simp only [hpn, hpm] at HS); have F := HS.boxes; simp only [bxn] at F) | ((with_reducible refine gate_store (p := 21) rfl ?_); refine ev_store rfl 2 5 HS (seg := [.int .i64 a0.f5]) rfl rfl rfl rfl rfl rfl (by kernel_rfl) (by simp [wrt]) (by simp [Value.oneCell']) ?_; clear HS; (try clear F); intro w17 HS; (try simp only [hpn, hpm] at HS); have F := HS.boxes; simp only [bxn] at F) | ((with_reducible refine gate_dst (N := 24) rfl ?_); refine ev_call rfl Tryz.func240 (by kernel_rfl) rfl #[.slice Ap0 a0.f6.length cp0] rfl (by simp only [mpn]; rfl) ?_; refine (laws_toAnswerS.calls ht19.out (HS.ro gp0) lp0).mono ?_; rintro _ wt19 ⟨v20, rfl, HQ⟩; refine ⟨_, rfl, ?_⟩; replace HS := HS.call HQ; clear HQ; (try clear F); obtain ⟨B20, d20, rfl, m20⟩ := HS.form 3 rfl; (try simp only [hpn, hpm] at HS); have F := HS.boxes; simp only [bxn] at F) | ((with_reducible refine gate_store (p := 25) rfl ?_); refine ev_store rfl 2 6 HS (seg := [.slice B20 t19.length d20]) rfl rfl rfl rfl rfl rfl (by kernel_rfl) (by simp [wrt]) (by simp [Value.oneCell']) ?_; clear HS; (try clear F); intro w22 HS; (try simp only [hpn, hpm] at HS); have F := HS.boxes; simp only [bxn] at F) | ((with_reducible refine gate_store (p := 28) rfl ?_); refine ev_store rfl 2 7 HS (seg := [.string a0.f7]) rfl rfl rfl rfl rfl rfl (by kernel_rfl) (by simp [wrt]) (by simp [Value.oneCell']) ?_; clear HS; (try clear F); intro w24 HS; (try simp only [hpn, hpm] at HS); have F := HS.boxes; simp only [bxn] at F) | ((with_reducible refine gate_store (p := 2) rfl ?_); refine ev_store rfl 1 0 HS (seg := [.string a0.f0, .int .i64 a0.f1, .int .i64 a0.f2, .int .i64 a0.f3, .int .i64 a0.f4, .int .i64 a0.f5, .slice B20 t19.length d20, .string a0.f7]) rfl rfl rfl rfl rfl rfl (by kernel_rfl) (by simp [wrt]) (by simp [Value.oneCell']) ?_; clear HS; (try clear F); intro w26 HS; (try simp only [hpn, hpm] at HS); have F := HS.boxes; simp only [bxn] at F))
 exact bodyPost_ret (results_single rfl (.cell _ _ _ _ _ rfl (HS.boxAt (i := 1) rfl) Tryz.underlying221 rfl (by kernel_rfl) .nil)) rfl ⟨_, rfl, HS.pick [3] (by decide) (by rfl)⟩
/-! ### laws_toGot: function 216 -/
def laws_toGot.f (k : Nat) (a0 : S271) : Option (S223) := ((laws_toReply.f k a0.f1).bind fun t9 => (some (⟨a0.f0, (⟨t9.f0, t9.f1, t9.f2, t9.f3, t9.f4, t9.f5, t9.f6, t9.f7⟩ : S221)⟩ : S223)))
set_option maxHeartbeats 16000000 in
theorem laws_toGot.calls {k : Nat} {a0 : S271} {Ap0 : Option Addr} {np0 cp0 : Nat} {r : S223} {w : World} (h : laws_toGot.f k a0 = some r) (gp0 : k304.C w Ap0 np0 a0.f1.f6) (lp0 : np0 ≤ cp0) :
    Calls Tryz.prog 216 #[.agg #[.int .i64 a0.f0, .string a0.f1.f0, .int .i64 a0.f1.f1, .int .i64 a0.f1.f2, .int .i64 a0.f1.f3, .int .i64 a0.f1.f4, .int .i64 a0.f1.f5, .slice Ap0 np0 cp0, .string a0.f1.f7]] w (fun e w' => ∃ v0_ : Value, e = .returned (.agg #[.int .i64 r.f0, .string r.f1.f0, .int .i64 r.f1.f1, .int .i64 r.f1.f2, .int .i64 r.f1.f3, .int .i64 r.f1.f4, .int .i64 r.f1.f5, v0_, .string r.f1.f7]) ∧ Hp noFP w w' [.own (Zd.slice 273 q273) r.f1.f6 [v0_]]) := by
 obtain rfl := C_len gp0
 have HS := Hp.start w
 have H := Aside0.mk h
 clear h
 unfold laws_toGot.f at H
 go_enter Tryz.func216, Tryz.ntmps216
 replace H := zbind H; obtain ⟨t9, ht9, H⟩ := H
 obtain rfl := zsome H
 go_wp2_with (first | ((with_reducible refine gate_dst (N := 1) rfl ?_); refine ev_box rfl HS (by first | (go_simp; done) | (go_simp; rfl)) rfl ?_; clear HS; (try clear F); intro g1 w1 HS; (try simp only [hpn, hpm] at HS); have F := HS.boxes; simp only [bxn] at F) | ((with_reducible refine gate_dst (N := 2) rfl ?_); refine ev_box rfl HS (by first | (go_simp; done) | (go_simp; rfl)) rfl ?_; clear HS; (try clear F); intro g2 w2 HS; (try simp only [hpn, hpm] at HS); have F := HS.boxes; simp only [bxn] at F) | ((with_reducible refine gate_dst (N := 3) rfl ?_); refine ev_box rfl HS (by first | (go_simp; done) | (go_simp; rfl)) rfl ?_; clear HS; (try clear F); intro g3 w3 HS; (try simp only [hpn, hpm] at HS); have F := HS.boxes; simp only [bxn] at F) | ((with_reducible refine gate_store (p := 6) rfl ?_); refine ev_store rfl 2 0 HS (seg := [.int .i64 a0.f0]) rfl rfl rfl rfl rfl rfl (by kernel_rfl) (by simp [wrt]) (by simp [Value.oneCell']) ?_; clear HS; (try clear F); intro w7 HS; (try simp only [hpn, hpm] at HS); have F := HS.boxes; simp only [bxn] at F) | ((with_reducible refine gate_dst (N := 9) rfl ?_); refine ev_call rfl Tryz.func230 (by kernel_rfl) rfl #[.agg #[.string a0.f1.f0, .int .i64 a0.f1.f1, .int .i64 a0.f1.f2, .int .i64 a0.f1.f3, .int .i64 a0.f1.f4, .int .i64 a0.f1.f5, .slice Ap0 a0.f1.f6.length cp0, .string a0.f1.f7]] rfl (by simp only [mpn]; rfl) ?_; refine (laws_toReply.calls ht9.out (HS.ro gp0) lp0).mono ?_; rintro _ wt9 ⟨v10, rfl, HQ⟩; refine ⟨_, rfl, ?_⟩; replace HS := HS.call HQ; clear HQ; (try clear F); obtain ⟨B10, d10, rfl, m10⟩ := HS.form 3 rfl; (try simp only [hpn, hpm] at HS); have F := HS.boxes; simp only [bxn] at F) | ((with_reducible refine gate_store (p := 10) rfl ?_); refine ev_store rfl 2 1 HS (seg := [.string t9.f0, .int .i64 t9.f1, .int .i64 t9.f2, .int .i64 t9.f3, .int .i64 t9.f4, .int .i64 t9.f5, .slice B10 t9.f6.length d10, .string t9.f7]) rfl rfl rfl rfl rfl rfl (by kernel_rfl) (by simp [wrt]) (by simp [Value.oneCell']) ?_; clear HS; (try clear F); intro w12 HS; (try simp only [hpn, hpm] at HS); have F := HS.boxes; simp only [bxn] at F) | ((with_reducible refine gate_store (p := 2) rfl ?_); refine ev_store rfl 1 0 HS (seg := [.int .i64 a0.f0, .string t9.f0, .int .i64 t9.f1, .int .i64 t9.f2, .int .i64 t9.f3, .int .i64 t9.f4, .int .i64 t9.f5, .slice B10 t9.f6.length d10, .string t9.f7]) rfl rfl rfl rfl rfl rfl (by kernel_rfl) (by simp [wrt]) (by simp [Value.oneCell']) ?_; clear HS; (try clear F); intro w14 HS; (try simp only [hpn, hpm] at HS); have F := HS.boxes; simp only [bxn] at F))
 exact bodyPost_ret (results_single rfl (.cell _ _ _ _ _ rfl (HS.boxAt (i := 1) rfl) Tryz.underlying223 rfl (by kernel_rfl) .nil)) rfl ⟨_, rfl, HS.pick [3] (by decide) (by rfl)⟩
/-! ### laws_toGotS: function 166 -/
def laws_toGotS.l0 : Nat → (List S223) → Int → (List S271) → Option ((List S223))
  | 0, _, _, _ => none
  | k + 1, l21, x23, a0 => (if x23 < (a0.length : Int) then (if 0 ≤ x23 then (if x23 < (a0.length : Int) then ((laws_toGot.f k (rd_T271 a0 x23)).bind fun t29 => (laws_toGotS.l0 k (l21.set (x23).toNat t29) (wrap64 (x23 + 1)) a0)) else none) else none) else (some l21))
def laws_toGotS.f (k : Nat) (a0 : (List S271)) : Option ((List S223)) := (if 0 ≤ (a0.length : Int) then (if ((a0.length : Int)).toNat ≤ 2706490160679 then (laws_toGotS.l0 k (List.replicate a0.length z223) 0 a0) else none) else none)
set_option maxHeartbeats 16000000 in
theorem laws_toGotS.calls {k : Nat} {a0 : (List S271)} {Ap0 : Option Addr} {np0 cp0 : Nat} {r : (List S223)} {w : World} (h : laws_toGotS.f k a0 = some r) (gp0 : k271.C w Ap0 np0 a0) (lp0 : np0 ≤ cp0) :
    Calls Tryz.prog 166 #[.slice Ap0 np0 cp0] w (fun e w' => ∃ v0_ : Value, e = .returned (v0_) ∧ Hp noFP w w' [.own (Zd.slice 223 q223) r [v0_]]) := by
 obtain rfl := C_len gp0
 have HS := Hp.start w
 have H := Aside0.mk h
 clear h
 unfold laws_toGotS.f at H
 go_enter Tryz.func166, Tryz.ntmps166
 by_cases c1 : 0 ≤ (a0.length : Int)
 case neg => exact zno c1 H
 replace H := zpos c1 H
 replace c1 := eq_true c1
 by_cases c2 : ((a0.length : Int)).toNat ≤ 2706490160679
 case neg => exact zno c2 H
 replace H := zpos c2 H
 replace c2 := eq_true c2
 go_wp2_with (first | ((with_reducible refine gate_dst (N := 7) rfl ?_); refine ev_make rfl q223 z223 HS rfl (a0.length : Int) rfl rfl Tryz.underlying63 info223 rfl (by decide) (by decide) q223_zero (of_eq_true c1) (by have := of_eq_true c2; omega) ?_; clear HS; (try clear F); intro v3 w3 HS; obtain ⟨B3, d3, rfl, m3⟩ := HS.formn a0.length 0 rfl (by first | rfl | simp); (try simp only [hpn, hpm] at HS)))
 go_loopg [4] k (fun kq v_4 w' => ∃ (l21 : List S223) (x23 : Int), v_4 = .int .i64 x23 ∧ Aside0 (laws_toGotS.l0 kq l21 x23 a0 = some r) ∧ Aside0 (kq ≤ k) ∧ Hp noFP w w' [.own (Zd.slice 223 q223) l21 [.slice B3 a0.length d3]])
 case atStart => exact ⟨_, _, rfl, H, ⟨Nat.le_refl _⟩, HS⟩
 case round =>
  clear HS H; (try clear F)
  obtain ⟨l21, x23, rfl, H, HKk20, HS⟩ := hrel
  cases gk with
  | zero => exact absurd H.out (by simp [laws_toGotS.l0])
  | succ k20 =>
   simp only [laws_toGotS.l0] at H
   by_cases c25 : x23 < (a0.length : Int)
   case neg =>
    replace H := zneg c25 H
    replace c25 := eq_false c25
    obtain rfl := zsome H
    go_wp2
    exact bodyPost_ret (results_single rfl (.tmp .nil)) rfl ⟨_, rfl, HS.pick [0] (by decide) (by rfl)⟩
   replace H := zpos c25 H
   replace c25 := eq_true c25
   by_cases c26 : 0 ≤ x23
   case neg => exact zno c26 H
   replace H := zpos c26 H
   replace c26 := eq_true c26
   by_cases c27 : x23 < (a0.length : Int)
   case neg => exact zno c27 H
   replace H := zpos c27 H
   replace c27 := eq_true c27
   obtain ⟨ad28, B28_7, d28_7, rfl, e28_0, e28_1, e28_2, e28_3, e28_4, e28_5, e28_6, e28_7, e28_8, m28_7, y28_7⟩ := at_T271 gp0 x23 (of_eq_true c26) (of_eq_true c27)
   have e28_0_28 := (HS.keepc e28_0)
   have e28_1_28 := (HS.keepc e28_1)
   have e28_2_28 := (HS.keepc e28_2)
   have e28_3_28 := (HS.keepc e28_3)
   have e28_4_28 := (HS.keepc e28_4)
   have e28_5_28 := (HS.keepc e28_5)
   have e28_6_28 := (HS.keepc e28_6)
   have e28_7_28 := (HS.keepc e28_7)
   have e28_8_28 := (HS.keepc e28_8)
   replace H := zbind H; obtain ⟨t29, ht29, H⟩ := H
   go_wp2_with (first | ((with_reducible refine gate_dst (N := 20) rfl ?_); refine ev_call rfl Tryz.func216 (by kernel_rfl) rfl #[.agg #[.int .i64 ((rd_T271 a0 x23).f0), .string ((rd_T271 a0 x23).f1.f0), .int .i64 ((rd_T271 a0 x23).f1.f1), .int .i64 ((rd_T271 a0 x23).f1.f2), .int .i64 ((rd_T271 a0 x23).f1.f3), .int .i64 ((rd_T271 a0 x23).f1.f4), .int .i64 ((rd_T271 a0 x23).f1.f5), .slice B28_7 (rd_T271 a0 x23).f1.f6.length d28_7, .string ((rd_T271 a0 x23).f1.f7)]] rfl (by simp only [mpn]; rfl) ?_; refine (laws_toGot.calls ht29.out (HS.ro y28_7) m28_7).mono ?_; rintro _ wt29 ⟨v30, rfl, HQ⟩; refine ⟨_, rfl, ?_⟩; replace HS := HS.call HQ; clear HQ; (try clear F); obtain ⟨B30, d30, rfl, m30⟩ := HS.form 1 rfl; (try simp only [hpn, hpm] at HS); obtain ⟨ad32, B32_7, d32_7, rfl, e32_0, e32_1, e32_2, e32_3, e32_4, e32_5, e32_6, e32_7, e32_8, m32_7, y32_7⟩ := at_T223 (HS.rd 0 rfl) x23 (of_eq_true c26) (of_eq_true c27)) | ((with_reducible refine gate_store (p := 21) rfl ?_); refine ev_set rfl q223 0 [1] x23 t29 HS (seg := [.int .i64 t29.f0, .string t29.f1.f0, .int .i64 t29.f1.f1, .int .i64 t29.f1.f2, .int .i64 t29.f1.f3, .int .i64 t29.f1.f4, .int .i64 t29.f1.f5, .slice B30 t29.f1.f6.length d30, .string t29.f1.f7]) rfl (by decide) rfl rfl rfl (by first | rfl | exact (Nat.mul_one _).symm) rfl rfl (by kernel_rfl) (by simp [Value.oneCell']) ⟨of_eq_true c26, of_eq_true c27⟩ rfl (fun S hd hh => q223_pack (x := t29) hd (hh 1 (.own (Zd.slice 273 q273) t29.f1.f6 [.slice B30 t29.f1.f6.length d30]) rfl) (by decide)) ?_; clear HS; (try clear F); intro w33 HS; (try simp only [hpn, hpm] at HS)))
   go_roundg k20
   case measure => have := HKk20.out; omega
   case rel => exact ⟨_, _, rfl, H, ⟨by have := HKk20.out; omega⟩, HS.pick [0] (by decide) (by rfl)⟩
/-! ### laws_toClient: function 91 -/
def laws_toClient.f (k : Nat) (a0 : S54) : Option (S65) := ((laws_toWaitS.f k a0.f2).bind fun t11 => ((laws_toGotS.f k a0.f3).bind fun t16 => ((laws_toIntS.f k a0.f4).bind fun t21 => (some (⟨a0.f0, a0.f1, t11, t16, t21⟩ : S65)))))
set_option maxHeartbeats 16000000 in
theorem laws_toClient.calls {k : Nat} {a0 : S54} {Ap0 : Option Addr} {np0 cp0 : Nat} {Ap1 : Option Addr} {np1 cp1 : Nat} {Ap2 : Option Addr} {np2 cp2 : Nat} {r : S65} {w : World} (h : laws_toClient.f k a0 = some r) (gp0 : k265.C w Ap0 np0 a0.f2) (lp0 : np0 ≤ cp0) (gp1 : k271.C w Ap1 np1 a0.f3) (lp1 : np1 ≤ cp1) (gp2 : (Kd.int .i64).C w Ap2 np2 a0.f4) (lp2 : np2 ≤ cp2) :
    Calls Tryz.prog 91 #[.agg #[.string a0.f0, .int .i64 a0.f1, .slice Ap0 np0 cp0, .slice Ap1 np1 cp1, .slice Ap2 np2 cp2]] w (fun e w' => ∃ v0_ v1_ v2_ : Value, e = .returned (.agg #[.string r.f0, .int .i64 r.f1, v0_, v1_, v2_]) ∧ Hp noFP w w' [.own (Zd.slice 274 q274) r.f2 [v0_], .own (Zd.slice 223 q223) r.f3 [v1_], .own (Zd.slice 3 (Zd.int .i64)) r.f4 [v2_]]) := by
 obtain rfl := C_len gp0
 obtain rfl := C_len gp1
 obtain rfl := C_len gp2
 have HS := Hp.start w
 have H := Aside0.mk h
 clear h
 unfold laws_toClient.f at H
 go_enter Tryz.func91, Tryz.ntmps91
 replace H := zbind H; obtain ⟨t11, ht11, H⟩ := H
 replace H := zbind H; obtain ⟨t16, ht16, H⟩ := H
 replace H := zbind H; obtain ⟨t21, ht21, H⟩ := H
 obtain rfl := zsome H
 go_wp2_with (first | ((with_reducible refine gate_dst (N := 1) rfl ?_); refine ev_box rfl HS (by first | (go_simp; done) | (go_simp; rfl)) rfl ?_; clear HS; (try clear F); intro g1 w1 HS; (try simp only [hpn, hpm] at HS); have F := HS.boxes; simp only [bxn] at F) | ((with_reducible refine gate_dst (N := 2) rfl ?_); refine ev_box rfl HS (by first | (go_simp; done) | (go_simp; rfl)) rfl ?_; clear HS; (try clear F); intro g2 w2 HS; (try simp only [hpn, hpm] at HS); have F := HS.boxes; simp only [bxn] at F) | ((with_reducible refine gate_dst (N := 3) rfl ?_); refine ev_box rfl HS (by first | (go_simp; done) | (go_simp; rfl)) rfl ?_; clear HS; (try clear F); intro g3 w3 HS; (try simp only [hpn, hpm] at HS); have F := HS.boxes; simp only [bxn] at F) | ((with_reducible refine gate_store (p := 6) rfl ?_); refine ev_store rfl 2 0 HS (seg := [.string a0.f0]) rfl rfl rfl rfl rfl rfl (by kernel_rfl) (by simp [wrt]) (by simp [Value.oneCell']) ?_; clear HS; (try clear F); intro w7 HS; (try simp only [hpn, hpm] at HS); have F := HS.boxes; simp only [bxn] at F) | ((with_reducible refine gate_store (p := 9) rfl ?_); refine ev_store rfl 2 1 HS (seg := [.int .i64 a0.f1]) rfl rfl rfl rfl rfl rfl (by kernel_rfl) (by simp [wrt]) (by simp [Value.oneCell']) ?_; clear HS; (try clear F); intro w9 HS; (try simp only [hpn, hpm] at HS); have F := HS.boxes; simp only [bxn] at F) | ((with_reducible refine gate_dst (N := 12) rfl ?_); refine ev_call rfl Tryz.func165 (by kernel_rfl) rfl #[.slice Ap0 a0.f2.length cp0] rfl (by simp only [mpn]; rfl) ?_; refine (laws_toWaitS.calls ht11.out (HS.ro gp0) lp0).mono ?_; rintro _ wt11 ⟨v12, rfl, HQ⟩; refine ⟨_, rfl, ?_⟩; replace HS := HS.call HQ; clear HQ; (try clear F); obtain ⟨B12, d12, rfl, m12⟩ := HS.form 3 rfl; (try simp only [hpn, hpm] at HS); have F := HS.boxes; simp only [bxn] at F) | ((with_reducible refine gate_store (p := 13) rfl ?_); refine ev_store rfl 2 2 HS (seg := [.slice B12 t11.length d12]) rfl rfl rfl rfl rfl rfl (by kernel_rfl) (by simp [wrt]) (by simp [Value.oneCell']) ?_; clear HS; (try clear F); intro w14 HS; (try simp only [hpn, hpm] at HS); have F := HS.boxes; simp only [bxn] at F) | ((with_reducible refine gate_dst (N := 16) rfl ?_); refine ev_call rfl Tryz.func166 (by kernel_rfl) rfl #[.slice Ap1 a0.f3.length cp1] rfl (by simp only [mpn]; rfl) ?_; refine (laws_toGotS.calls ht16.out (HS.ro gp1) lp1).mono ?_; rintro _ wt16 ⟨v17, rfl, HQ⟩; refine ⟨_, rfl, ?_⟩; replace HS := HS.call HQ; clear HQ; (try clear F); obtain ⟨B17, d17, rfl, m17⟩ := HS.form 4 rfl; (try simp only [hpn, hpm] at HS); have F := HS.boxes; simp only [bxn] at F) | ((with_reducible refine gate_store (p := 17) rfl ?_); refine ev_store rfl 2 3 HS (seg := [.slice B17 t16.length d17]) rfl rfl rfl rfl rfl rfl (by kernel_rfl) (by simp [wrt]) (by simp [Value.oneCell']) ?_; clear HS; (try clear F); intro w19 HS; (try simp only [hpn, hpm] at HS); have F := HS.boxes; simp only [bxn] at F) | ((with_reducible refine gate_dst (N := 20) rfl ?_); refine ev_call rfl Tryz.func93 (by kernel_rfl) rfl #[.slice Ap2 a0.f4.length cp2] rfl (by simp only [mpn]; rfl) ?_; refine (laws_toIntS.calls ht21.out (HS.ro gp2) lp2).mono ?_; rintro _ wt21 ⟨v22, rfl, HQ⟩; refine ⟨_, rfl, ?_⟩; replace HS := HS.call HQ; clear HQ; (try clear F); obtain ⟨B22, d22, rfl, m22⟩ := HS.form 5 rfl; (try simp only [hpn, hpm] at HS); have F := HS.boxes; simp only [bxn] at F) | ((with_reducible refine gate_store (p := 21) rfl ?_); refine ev_store rfl 2 4 HS (seg := [.slice B22 t21.length d22]) rfl rfl rfl rfl rfl rfl (by kernel_rfl) (by simp [wrt]) (by simp [Value.oneCell']) ?_; clear HS; (try clear F); intro w24 HS; (try simp only [hpn, hpm] at HS); have F := HS.boxes; simp only [bxn] at F) | ((with_reducible refine gate_store (p := 2) rfl ?_); refine ev_store rfl 1 0 HS (seg := [.string a0.f0, .int .i64 a0.f1, .slice B12 t11.length d12, .slice B17 t16.length d17, .slice B22 t21.length d22]) rfl rfl rfl rfl rfl rfl (by kernel_rfl) (by simp [wrt]) (by simp [Value.oneCell']) ?_; clear HS; (try clear F); intro w26 HS; (try simp only [hpn, hpm] at HS); have F := HS.boxes; simp only [bxn] at F))
 exact bodyPost_ret (results_single rfl (.cell _ _ _ _ _ rfl (HS.boxAt (i := 1) rfl) Tryz.underlying65 rfl (by kernel_rfl) .nil)) rfl ⟨_, _, _, rfl, HS.pick [3, 4, 5] (by decide) (by rfl)⟩
/-! ### laws_toLetter: function 167 -/
def laws_toLetter.f (a0 : S214) : Option (S228) := (some (⟨a0.f0, a0.f1⟩ : S228))
set_option maxHeartbeats 16000000 in
theorem laws_toLetter.calls {a0 : S214} {r : S228} {w : World} (h : laws_toLetter.f a0 = some r) :
    Calls Tryz.prog 167 #[.agg #[.bool a0.f0, .string a0.f1]] w (fun e w' => e = .returned (.agg #[.bool r.f0, .string r.f1]) ∧ Hp noFP w w' []) := by
 have HS := Hp.start w
 have H := Aside0.mk h
 clear h
 unfold laws_toLetter.f at H
 go_enter Tryz.func167, Tryz.ntmps167
 obtain rfl := zsome H
 go_wp2_with (first | ((with_reducible refine gate_dst (N := 1) rfl ?_); refine ev_box rfl HS (by first | (go_simp; done) | (go_simp; rfl)) rfl ?_; clear HS; (try clear F); intro g1 w1 HS; (try simp only [hpn, hpm] at HS); have F := HS.boxes; simp only [bxn] at F) | ((with_reducible refine gate_dst (N := 2) rfl ?_); refine ev_box rfl HS (by first | (go_simp; done) | (go_simp; rfl)) rfl ?_; clear HS; (try clear F); intro g2 w2 HS; (try simp only [hpn, hpm] at HS); have F := HS.boxes; simp only [bxn] at F) | ((with_reducible refine gate_dst (N := 3) rfl ?_); refine ev_box rfl HS (by first | (go_simp; done) | (go_simp; rfl)) rfl ?_; clear HS; (try clear F); intro g3 w3 HS; (try simp only [hpn, hpm] at HS); have F := HS.boxes; simp only [bxn] at F) | ((with_reducible refine gate_store (p := 6) rfl ?_); refine ev_store rfl 2 0 HS (seg := [.bool a0.f0]) rfl rfl rfl rfl rfl rfl (by kernel_rfl) (by simp [wrt]) (by simp [Value.oneCell']) ?_; clear HS; (try clear F); intro w7 HS; (try simp only [hpn, hpm] at HS); have F := HS.boxes; simp only [bxn] at F) | ((with_reducible refine gate_store (p := 9) rfl ?_); refine ev_store rfl 2 1 HS (seg := [.string a0.f1]) rfl rfl rfl rfl rfl rfl (by kernel_rfl) (by simp [wrt]) (by simp [Value.oneCell']) ?_; clear HS; (try clear F); intro w9 HS; (try simp only [hpn, hpm] at HS); have F := HS.boxes; simp only [bxn] at F) | ((with_reducible refine gate_store (p := 2) rfl ?_); refine ev_store rfl 1 0 HS (seg := [.bool a0.f0, .string a0.f1]) rfl rfl rfl rfl rfl rfl (by kernel_rfl) (by simp [wrt]) (by simp [Value.oneCell']) ?_; clear HS; (try clear F); intro w11 HS; (try simp only [hpn, hpm] at HS); have F := HS.boxes; simp only [bxn] at F))
 exact bodyPost_ret (results_single rfl (.cell _ _ _ _ _ rfl (HS.boxAt (i := 1) rfl) Tryz.underlying228 rfl (by kernel_rfl) .nil)) rfl ⟨rfl, HS.pick [] (by decide) (by rfl)⟩
/-! ### laws_toLetterS: function 92 -/
def laws_toLetterS.l0 : Nat → (List S228) → Int → (List S214) → Option ((List S228))
  | 0, _, _, _ => none
  | k + 1, l20, x22, a0 => (if x22 < (a0.length : Int) then (if 0 ≤ x22 then (if x22 < (a0.length : Int) then ((laws_toLetter.f (rd_T214 a0 x22)).bind fun t28 => (laws_toLetterS.l0 k (l20.set (x22).toNat t28) (wrap64 (x22 + 1)) a0)) else none) else none) else (some l20))
def laws_toLetterS.f (k : Nat) (a0 : (List S214)) : Option ((List S228)) := (if 0 ≤ (a0.length : Int) then (if ((a0.length : Int)).toNat ≤ 11728124029610 then (laws_toLetterS.l0 k (List.replicate a0.length z228) 0 a0) else none) else none)
set_option maxHeartbeats 16000000 in
theorem laws_toLetterS.calls {k : Nat} {a0 : (List S214)} {Ap0 : Option Addr} {np0 cp0 : Nat} {r : (List S228)} {w : World} (h : laws_toLetterS.f k a0 = some r) (gp0 : k214.C w Ap0 np0 a0) (lp0 : np0 ≤ cp0) :
    Calls Tryz.prog 92 #[.slice Ap0 np0 cp0] w (fun e w' => ∃ v0_ : Value, e = .returned (v0_) ∧ Hp noFP w w' [.own (Zd.slice 228 q228) r [v0_]]) := by
 obtain rfl := C_len gp0
 have HS := Hp.start w
 have H := Aside0.mk h
 clear h
 unfold laws_toLetterS.f at H
 go_enter Tryz.func92, Tryz.ntmps92
 by_cases c1 : 0 ≤ (a0.length : Int)
 case neg => exact zno c1 H
 replace H := zpos c1 H
 replace c1 := eq_true c1
 by_cases c2 : ((a0.length : Int)).toNat ≤ 11728124029610
 case neg => exact zno c2 H
 replace H := zpos c2 H
 replace c2 := eq_true c2
 go_wp2_with (first | ((with_reducible refine gate_dst (N := 7) rfl ?_); refine ev_make rfl q228 z228 HS rfl (a0.length : Int) rfl rfl Tryz.underlying66 info228 rfl (by decide) (by decide) q228_zero (of_eq_true c1) (by have := of_eq_true c2; omega) ?_; clear HS; (try clear F); intro v3 w3 HS; obtain ⟨B3, d3, rfl, m3⟩ := HS.formn a0.length 0 rfl (by first | rfl | simp); (try simp only [hpn, hpm] at HS)))
 go_loopg [4] k (fun kq v_4 w' => ∃ (l20 : List S228) (x22 : Int), v_4 = .int .i64 x22 ∧ Aside0 (laws_toLetterS.l0 kq l20 x22 a0 = some r) ∧ Aside0 (kq ≤ k) ∧ Hp noFP w w' [.own (Zd.slice 228 q228) l20 [.slice B3 a0.length d3]])
 case atStart => exact ⟨_, _, rfl, H, ⟨Nat.le_refl _⟩, HS⟩
 case round =>
  clear HS H; (try clear F)
  obtain ⟨l20, x22, rfl, H, HKk19, HS⟩ := hrel
  cases gk with
  | zero => exact absurd H.out (by simp [laws_toLetterS.l0])
  | succ k19 =>
   simp only [laws_toLetterS.l0] at H
   by_cases c24 : x22 < (a0.length : Int)
   case neg =>
    replace H := zneg c24 H
    replace c24 := eq_false c24
    obtain rfl := zsome H
    go_wp2
    exact bodyPost_ret (results_single rfl (.tmp .nil)) rfl ⟨_, rfl, HS.pick [0] (by decide) (by rfl)⟩
   replace H := zpos c24 H
   replace c24 := eq_true c24
   by_cases c25 : 0 ≤ x22
   case neg => exact zno c25 H
   replace H := zpos c25 H
   replace c25 := eq_true c25
   by_cases c26 : x22 < (a0.length : Int)
   case neg => exact zno c26 H
   replace H := zpos c26 H
   replace c26 := eq_true c26
   obtain ⟨ad27, rfl, e27_0, e27_1⟩ := at_T214 gp0 x22 (of_eq_true c25) (of_eq_true c26)
   have e27_0_27 := (HS.keepc e27_0)
   have e27_1_27 := (HS.keepc e27_1)
   replace H := zbind H; obtain ⟨t28, ht28, H⟩ := H
   go_wp2_with (first | ((with_reducible refine gate_dst (N := 20) rfl ?_); refine ev_call rfl Tryz.func167 (by kernel_rfl) rfl #[.agg #[.bool ((rd_T214 a0 x22).f0), .string ((rd_T214 a0 x22).f1)]] rfl (by simp only [mpn]; rfl) ?_; refine (laws_toLetter.calls ht28.out).mono ?_; rintro _ wt28 ⟨rfl, HQ⟩; refine ⟨_, rfl, ?_⟩; replace HS := HS.call HQ; clear HQ; (try clear F); (try simp only [hpn, hpm] at HS); obtain ⟨ad30, rfl, e30_0, e30_1⟩ := at_T228 (HS.rd 0 rfl) x22 (of_eq_true c25) (of_eq_true c26)) | ((with_reducible refine gate_store (p := 21) rfl ?_); refine ev_set rfl q228 0 [] x22 t28 HS (seg := [.bool t28.f0, .string t28.f1]) rfl (by decide) rfl rfl rfl (by first | rfl | exact (Nat.mul_one _).symm) rfl rfl (by kernel_rfl) (by simp [Value.oneCell']) ⟨of_eq_true c25, of_eq_true c26⟩ rfl (made_flat (fun _ => q228_flat _ _ _)) ?_; clear HS; (try clear F); intro w31 HS; (try simp only [hpn, hpm] at HS)))
   go_roundg k19
   case measure => have := HKk19.out; omega
   case rel => exact ⟨_, _, rfl, H, ⟨by have := HKk19.out; omega⟩, HS.pick [0] (by decide) (by rfl)⟩
end Go.Proofs.YtacocpknielofaaGreatDoor.F
