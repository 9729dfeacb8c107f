/- Functions of the program and of the law, and that their calls do what is written here. -/
import Derived.Test.YtacocpknielofaaGreatDoorZgFnExactShowWorldc
namespace Go.Proofs.YtacocpknielofaaGreatDoor.F
open Go.RowKit Go.Proofs.YtacocpknielofaaGreatDoorW.PrintWords Go.Proofs.YtacocpknielofaaGreatDoorW.PrintLast Go.Proofs.YtacocpknielofaaGreatDoorW.PrintMore Go.Proofs.YtacocpknielofaaGreatDoor.Z
attribute [local go_sem] max2_int min2_int max_two min_two max_three min_three max_four min_four
set_option linter.unusedVariables false
set_option linter.unusedSimpArgs false
set_option maxRecDepth 100000
/-! ### laws_toCert: function 36 -/
def laws_toCert.f (k : Nat) (a0 : S88) : Option (S91) := ((laws_toIntS.f k a0.f9).bind fun t25 => ((laws_toStringS.f k a0.f10).bind fun t30 => ((laws_toStringS.f k a0.f11).bind fun t35 => (some (⟨a0.f0, a0.f1, a0.f2, a0.f3, a0.f4, a0.f5, a0.f6, a0.f7, a0.f8, t25, t30, t35, a0.f12⟩ : S91)))))
set_option maxHeartbeats 16000000 in
theorem laws_toCert.calls {k : Nat} {a0 : S88} {Ap0 : Option Addr} {np0 cp0 : Nat} {Ap1 : Option Addr} {np1 cp1 : Nat} {Ap2 : Option Addr} {np2 cp2 : Nat} {r : S91} {w : World} (h : laws_toCert.f k a0 = some r) (gp0 : (Kd.int .i64).C w Ap0 np0 a0.f9) (lp0 : np0 ≤ cp0) (gp1 : Kd.string.C w Ap1 np1 a0.f10) (lp1 : np1 ≤ cp1) (gp2 : Kd.string.C w Ap2 np2 a0.f11) (lp2 : np2 ≤ cp2) :
    Calls Tryz.prog 36 #[.agg #[.int .i64 a0.f0, .string a0.f1, .string a0.f2, .int .i64 a0.f3, .int .i64 a0.f4, .string a0.f5, .bool a0.f6, .int .i64 a0.f7, .int .i64 a0.f8, .slice Ap0 np0 cp0, .slice Ap1 np1 cp1, .slice Ap2 np2 cp2, .string a0.f12]] w (fun e w' => ∃ v0_ v1_ v2_ : Value, e = .returned (.agg #[.int .i64 r.f0, .string r.f1, .string r.f2, .int .i64 r.f3, .int .i64 r.f4, .string r.f5, .bool r.f6, .int .i64 r.f7, .int .i64 r.f8, v0_, v1_, v2_, .string r.f12]) ∧ Hp noFP w w' [.own (Zd.slice 3 (Zd.int .i64)) r.f9 [v0_], .own (Zd.slice 9 Zd.string) r.f10 [v1_], .own (Zd.slice 9 Zd.string) r.f11 [v2_]]) := by
 obtain rfl := C_len gp0
 obtain rfl := C_len gp1
 obtain rfl := C_len gp2
 have HS := Hp.start w
 have H := Aside0.mk h
 clear h
 unfold laws_toCert.f at H
 go_enter Tryz.func36, Tryz.ntmps36
 replace H := zbind H; obtain ⟨t25, ht25, H⟩ := H
 replace H := zbind H; obtain ⟨t30, ht30, H⟩ := H
 replace H := zbind H; obtain ⟨t35, ht35, H⟩ := H
 obtain rfl := zsome H
 go_wp2_with (first | ((with_reducible refine gate_dst (N := 1) rfl ?_); refine ev_box rfl HS (by first | (go_simp; done) | (go_simp; rfl)) rfl ?_; clear HS; (try clear F); intro g1 w1 HS; (try simp only [hpn, hpm] at HS); have F := HS.boxes; simp only [bxn] at F) | ((with_reducible refine gate_dst (N := 2) rfl ?_); refine ev_box rfl HS (by first | (go_simp; done) | (go_simp; rfl)) rfl ?_; clear HS; (try clear F); intro g2 w2 HS; (try simp only [hpn, hpm] at HS); have F := HS.boxes; simp only [bxn] at F) | ((with_reducible refine gate_dst (N := 3) rfl ?_); refine ev_box rfl HS (by first | (go_simp; done) | (go_simp; rfl)) rfl ?_; clear HS; (try clear F); intro g3 w3 HS; (try simp only [hpn, hpm] at HS); have F := HS.boxes; simp only [bxn] at F) | ((with_reducible refine gate_store (p := 6) rfl ?_); refine ev_store rfl 2 0 HS (seg := [.int .i64 a0.f0]) rfl rfl rfl rfl rfl rfl (by kernel_rfl) (by simp [wrt]) (by simp [Value.oneCell']) ?_; clear HS; (try clear F); intro w7 HS; (try simp only [hpn, hpm] at HS); have F := HS.boxes; simp only [bxn] at F) | ((with_reducible refine gate_store (p := 9) rfl ?_); refine ev_store rfl 2 1 HS (seg := [.string a0.f1]) rfl rfl rfl rfl rfl rfl (by kernel_rfl) (by simp [wrt]) (by simp [Value.oneCell']) ?_; clear HS; (try clear F); intro w9 HS; (try simp only [hpn, hpm] at HS); have F := HS.boxes; simp only [bxn] at F) | ((with_reducible refine gate_store (p := 12) rfl ?_); refine ev_store rfl 2 2 HS (seg := [.string a0.f2]) rfl rfl rfl rfl rfl rfl (by kernel_rfl) (by simp [wrt]) (by simp [Value.oneCell']) ?_; clear HS; (try clear F); intro w11 HS; (try simp only [hpn, hpm] at HS); have F := HS.boxes; simp only [bxn] at F) | ((with_reducible refine gate_store (p := 15) rfl ?_); refine ev_store rfl 2 3 HS (seg := [.int .i64 a0.f3]) rfl rfl rfl rfl rfl rfl (by kernel_rfl) (by simp [wrt]) (by simp [Value.oneCell']) ?_; clear HS; (try clear F); intro w13 HS; (try simp only [hpn, hpm] at HS); have F := HS.boxes; simp only [bxn] at F) | ((with_reducible refine gate_store (p := 18) rfl ?_); refine ev_store rfl 2 4 HS (seg := [.int .i64 a0.f4]) rfl rfl rfl rfl rfl rfl (by kernel_rfl) (by simp [wrt]) (by simp [Value.oneCell']) ?_; clear HS; (try clear F); intro w15 HS; (try simp only [hpn, hpm] at HS); have F := HS.boxes; simp only [bxn] at F) | ((with_reducible refine gate_store (p := 21) rfl ?_); refine ev_store rfl 2 5 HS (seg := [.string a0.f5]) rfl rfl rfl rfl rfl rfl (by kernel_rfl) (by simp [wrt]) (by simp [Value.oneCell']) ?_; clear HS; (try clear F); intro w17 HS; (try simp only [hpn, hpm] at HS); have F := HS.boxes; simp only [bxn] at F) | ((with_reducible refine gate_store (p := 24) rfl ?_); refine ev_store rfl 2 6 HS (seg := [.bool a0.f6]) rfl rfl rfl rfl rfl rfl (by kernel_rfl) (by simp [wrt]) (by simp [Value.oneCell']) ?_; clear HS; (try clear F); intro w19 HS; (try simp only [hpn, hpm] at HS); have F := HS.boxes; simp only [bxn] at F) | ((with_reducible refine gate_store (p := 27) rfl ?_); refine ev_store rfl 2 7 HS (seg := [.int .i64 a0.f7]) rfl rfl rfl rfl rfl rfl (by kernel_rfl) (by simp [wrt]) (by simp [Value.oneCell']) ?_; clear HS; (try clear F); intro w21 HS; (try simp only [hpn, hpm] at HS); have F := HS.boxes; simp only [bxn] at F) | ((with_reducible refine gate_store (p := 30) rfl ?_); refine ev_store rfl 2 8 HS (seg := [.int .i64 a0.f8]) rfl rfl rfl rfl rfl rfl (by kernel_rfl) (by simp [wrt]) (by simp [Value.oneCell']) ?_; clear HS; (try clear F); intro w23 HS; (try simp only [hpn, hpm] at HS); have F := HS.boxes; simp only [bxn] at F) | ((with_reducible refine gate_dst (N := 33) rfl ?_); refine ev_call rfl Tryz.func93 (by kernel_rfl) rfl #[.slice Ap0 a0.f9.length cp0] rfl (by simp only [mpn]; rfl) ?_; refine (laws_toIntS.calls ht25.out (HS.ro gp0) lp0).mono ?_; rintro _ wt25 ⟨v26, rfl, HQ⟩; refine ⟨_, rfl, ?_⟩; replace HS := HS.call HQ; clear HQ; (try clear F); obtain ⟨B26, d26, rfl, m26⟩ := HS.form 3 rfl; (try simp only [hpn, hpm] at HS); have F := HS.boxes; simp only [bxn] at F) | ((with_reducible refine gate_store (p := 34) rfl ?_); refine ev_store rfl 2 9 HS (seg := [.slice B26 t25.length d26]) rfl rfl rfl rfl rfl rfl (by kernel_rfl) (by simp [wrt]) (by simp [Value.oneCell']) ?_; clear HS; (try clear F); intro w28 HS; (try simp only [hpn, hpm] at HS); have F := HS.boxes; simp only [bxn] at F) | ((with_reducible refine gate_dst (N := 37) rfl ?_); refine ev_call rfl Tryz.func95 (by kernel_rfl) rfl #[.slice Ap1 a0.f10.length cp1] rfl (by simp only [mpn]; rfl) ?_; refine (laws_toStringS.calls ht30.out (HS.ro gp1) lp1).mono ?_; rintro _ wt30 ⟨v31, rfl, HQ⟩; refine ⟨_, rfl, ?_⟩; replace HS := HS.call HQ; clear HQ; (try clear F); obtain ⟨B31, d31, rfl, m31⟩ := HS.form 4 rfl; (try simp only [hpn, hpm] at HS); have F := HS.boxes; simp only [bxn] at F) | ((with_reducible refine gate_store (p := 38) rfl ?_); refine ev_store rfl 2 10 HS (seg := [.slice B31 t30.length d31]) rfl rfl rfl rfl rfl rfl (by kernel_rfl) (by simp [wrt]) (by simp [Value.oneCell']) ?_; clear HS; (try clear F); intro w33 HS; (try simp only [hpn, hpm] at HS); have F := HS.boxes; simp only [bxn] at F) | ((with_reducible refine gate_dst (N := 41) rfl ?_); refine ev_call rfl Tryz.func95 (by kernel_rfl) rfl #[.slice Ap2 a0.f11.length cp2] rfl (by simp only [mpn]; rfl) ?_; refine (laws_toStringS.calls ht35.out (HS.ro gp2) lp2).mono ?_; rintro _ wt35 ⟨v36, rfl, HQ⟩; refine ⟨_, rfl, ?_⟩; replace HS := HS.call HQ; clear HQ; (try clear F); obtain ⟨B36, d36, rfl, m36⟩ := HS.form 5 rfl; (try simp only [hpn, hpm] at HS); have F := HS.boxes; simp only [bxn] at F) | ((with_reducible refine gate_store (p := 42) rfl ?_); refine ev_store rfl 2 11 HS (seg := [.slice B36 t35.length d36]) rfl rfl rfl rfl rfl rfl (by kernel_rfl) (by simp [wrt]) (by simp [Value.oneCell']) ?_; clear HS; (try clear F); intro w38 HS; (try simp only [hpn, hpm] at HS); have F := HS.boxes; simp only [bxn] at F) | ((with_reducible refine gate_store (p := 45) rfl ?_); refine ev_store rfl 2 12 HS (seg := [.string a0.f12]) rfl rfl rfl rfl rfl rfl (by kernel_rfl) (by simp [wrt]) (by simp [Value.oneCell']) ?_; clear HS; (try clear F); intro w40 HS; (try simp only [hpn, hpm] at HS); have F := HS.boxes; simp only [bxn] at F) | ((with_reducible refine gate_store (p := 2) rfl ?_); refine ev_store rfl 1 0 HS (seg := [.int .i64 a0.f0, .string a0.f1, .string a0.f2, .int .i64 a0.f3, .int .i64 a0.f4, .string a0.f5, .bool a0.f6, .int .i64 a0.f7, .int .i64 a0.f8, .slice B26 t25.length d26, .slice B31 t30.length d31, .slice B36 t35.length d36, .string a0.f12]) rfl rfl rfl rfl rfl rfl (by kernel_rfl) (by simp [wrt]) (by simp [Value.oneCell']) ?_; clear HS; (try clear F); intro w42 HS; (try simp only [hpn, hpm] at HS); have F := HS.boxes; simp only [bxn] at F))
 exact bodyPost_ret (results_single rfl (.cell _ _ _ _ _ rfl (HS.boxAt (i := 1) rfl) Tryz.underlying91 rfl (by kernel_rfl) .nil)) rfl ⟨_, _, _, rfl, HS.pick [3, 4, 5] (by decide) (by rfl)⟩
/-! ### laws_toCertS: function 58 -/
def laws_toCertS.l0 : Nat → (List S91) → Int → (List S88) → Option ((List S91))
  | 0, _, _, _ => none
  | k + 1, l23, x25, a0 => (if x25 < (a0.length : Int) then (if 0 ≤ x25 then (if x25 < (a0.length : Int) then ((laws_toCert.f k (rd_T88 a0 x25)).bind fun t31 => (laws_toCertS.l0 k (l23.set (x25).toNat t31) (wrap64 (x25 + 1)) a0)) else none) else none) else (some l23))
def laws_toCertS.f (k : Nat) (a0 : (List S88)) : Option ((List S91)) := (if 0 ≤ (a0.length : Int) then (if ((a0.length : Int)).toNat ≤ 1529755308210 then (laws_toCertS.l0 k (List.replicate a0.length z91) 0 a0) else none) else none)
set_option maxHeartbeats 16000000 in
theorem laws_toCertS.calls {k : Nat} {a0 : (List S88)} {Ap0 : Option Addr} {np0 cp0 : Nat} {r : (List S91)} {w : World} (h : laws_toCertS.f k a0 = some r) (gp0 : k88.C w Ap0 np0 a0) (lp0 : np0 ≤ cp0) :
    Calls Tryz.prog 58 #[.slice Ap0 np0 cp0] w (fun e w' => ∃ v0_ : Value, e = .returned (v0_) ∧ Hp noFP w w' [.own (Zd.slice 91 q91) r [v0_]]) := by
 obtain rfl := C_len gp0
 have HS := Hp.start w
 have H := Aside0.mk h
 clear h
 unfold laws_toCertS.f at H
 go_enter Tryz.func58, Tryz.ntmps58
 by_cases c1 : 0 ≤ (a0.length : Int)
 case neg => exact zno c1 H
 replace H := zpos c1 H
 replace c1 := eq_true c1
 by_cases c2 : ((a0.length : Int)).toNat ≤ 1529755308210
 case neg => exact zno c2 H
 replace H := zpos c2 H
 replace c2 := eq_true c2
 go_wp2_with (first | ((with_reducible refine gate_dst (N := 7) rfl ?_); refine ev_make rfl q91 z91 HS rfl (a0.length : Int) rfl rfl Tryz.underlying29 info91 rfl (by decide) (by decide) q91_zero (of_eq_true c1) (by have := of_eq_true c2; omega) ?_; clear HS; (try clear F); intro v3 w3 HS; obtain ⟨B3, d3, rfl, m3⟩ := HS.formn a0.length 0 rfl (by first | rfl | simp); (try simp only [hpn, hpm] at HS)))
 go_loopg [4] k (fun kq v_4 w' => ∃ (l23 : List S91) (x25 : Int), v_4 = .int .i64 x25 ∧ Aside0 (laws_toCertS.l0 kq l23 x25 a0 = some r) ∧ Aside0 (kq ≤ k) ∧ Hp noFP w w' [.own (Zd.slice 91 q91) l23 [.slice B3 a0.length d3]])
 case atStart => exact ⟨_, _, rfl, H, ⟨Nat.le_refl _⟩, HS⟩
 case round =>
  clear HS H; (try clear F)
  obtain ⟨l23, x25, rfl, H, HKk22, HS⟩ := hrel
  cases gk with
  | zero => exact absurd H.out (by simp [laws_toCertS.l0])
  | succ k22 =>
   simp only [laws_toCertS.l0] at H
   by_cases c27 : x25 < (a0.length : Int)
   case neg =>
    replace H := zneg c27 H
    replace c27 := eq_false c27
    obtain rfl := zsome H
    go_wp2
    exact bodyPost_ret (results_single rfl (.tmp .nil)) rfl ⟨_, rfl, HS.pick [0] (by decide) (by rfl)⟩
   replace H := zpos c27 H
   replace c27 := eq_true c27
   by_cases c28 : 0 ≤ x25
   case neg => exact zno c28 H
   replace H := zpos c28 H
   replace c28 := eq_true c28
   by_cases c29 : x25 < (a0.length : Int)
   case neg => exact zno c29 H
   replace H := zpos c29 H
   replace c29 := eq_true c29
   obtain ⟨ad30, B30_9, d30_9, B30_10, d30_10, B30_11, d30_11, rfl, e30_0, e30_1, e30_2, e30_3, e30_4, e30_5, e30_6, e30_7, e30_8, e30_9, e30_10, e30_11, e30_12, m30_9, y30_9, m30_10, y30_10, m30_11, y30_11⟩ := at_T88 gp0 x25 (of_eq_true c28) (of_eq_true c29)
   have e30_0_30 := (HS.keepc e30_0)
   have e30_1_30 := (HS.keepc e30_1)
   have e30_2_30 := (HS.keepc e30_2)
   have e30_3_30 := (HS.keepc e30_3)
   have e30_4_30 := (HS.keepc e30_4)
   have e30_5_30 := (HS.keepc e30_5)
   have e30_6_30 := (HS.keepc e30_6)
   have e30_7_30 := (HS.keepc e30_7)
   have e30_8_30 := (HS.keepc e30_8)
   have e30_9_30 := (HS.keepc e30_9)
   have e30_10_30 := (HS.keepc e30_10)
   have e30_11_30 := (HS.keepc e30_11)
   have e30_12_30 := (HS.keepc e30_12)
   replace H := zbind H; obtain ⟨t31, ht31, H⟩ := H
   go_wp2_with (first | ((with_reducible refine gate_dst (N := 20) rfl ?_); refine ev_call rfl Tryz.func36 (by kernel_rfl) rfl #[.agg #[.int .i64 ((rd_T88 a0 x25).f0), .string ((rd_T88 a0 x25).f1), .string ((rd_T88 a0 x25).f2), .int .i64 ((rd_T88 a0 x25).f3), .int .i64 ((rd_T88 a0 x25).f4), .string ((rd_T88 a0 x25).f5), .bool ((rd_T88 a0 x25).f6), .int .i64 ((rd_T88 a0 x25).f7), .int .i64 ((rd_T88 a0 x25).f8), .slice B30_9 (rd_T88 a0 x25).f9.length d30_9, .slice B30_10 (rd_T88 a0 x25).f10.length d30_10, .slice B30_11 (rd_T88 a0 x25).f11.length d30_11, .string ((rd_T88 a0 x25).f12)]] rfl (by simp only [mpn]; rfl) ?_; refine (laws_toCert.calls ht31.out (HS.ro y30_9) m30_9 (HS.ro y30_10) m30_10 (HS.ro y30_11) m30_11).mono ?_; rintro _ wt31 ⟨v32, v33, v34, rfl, HQ⟩; refine ⟨_, rfl, ?_⟩; replace HS := HS.call HQ; clear HQ; (try clear F); obtain ⟨B32, d32, rfl, m32⟩ := HS.form 1 rfl; obtain ⟨B33, d33, rfl, m33⟩ := HS.form 2 rfl; obtain ⟨B34, d34, rfl, m34⟩ := HS.form 3 rfl; (try simp only [hpn, hpm] at HS); obtain ⟨ad36, B36_9, d36_9, B36_10, d36_10, B36_11, d36_11, rfl, e36_0, e36_1, e36_2, e36_3, e36_4, e36_5, e36_6, e36_7, e36_8, e36_9, e36_10, e36_11, e36_12, m36_9, y36_9, m36_10, y36_10, m36_11, y36_11⟩ := at_T91 (HS.rd 0 rfl) x25 (of_eq_true c28) (of_eq_true c29)) | ((with_reducible refine gate_store (p := 21) rfl ?_); refine ev_set rfl q91 0 [1, 2, 3] x25 t31 HS (seg := [.int .i64 t31.f0, .string t31.f1, .string t31.f2, .int .i64 t31.f3, .int .i64 t31.f4, .string t31.f5, .bool t31.f6, .int .i64 t31.f7, .int .i64 t31.f8, .slice B32 t31.f9.length d32, .slice B33 t31.f10.length d33, .slice B34 t31.f11.length d34, .string t31.f12]) rfl (by decide) rfl rfl rfl (by first | rfl | exact (Nat.mul_one _).symm) rfl rfl (by kernel_rfl) (by simp [Value.oneCell']) ⟨of_eq_true c28, of_eq_true c29⟩ rfl (fun S hd hh => q91_pack (x := t31) hd (hh 1 (.own (Zd.slice 3 (Zd.int .i64)) t31.f9 [.slice B32 t31.f9.length d32]) rfl) (hh 2 (.own (Zd.slice 9 Zd.string) t31.f10 [.slice B33 t31.f10.length d33]) rfl) (hh 3 (.own (Zd.slice 9 Zd.string) t31.f11 [.slice B34 t31.f11.length d34]) rfl) (by decide)) ?_; clear HS; (try clear F); intro w37 HS; (try simp only [hpn, hpm] at HS)))
   go_roundg k22
   case measure => have := HKk22.out; omega
   case rel => exact ⟨_, _, rfl, H, ⟨by have := HKk22.out; omega⟩, HS.pick [0] (by decide) (by rfl)⟩
/-! ### laws_toRev: function 176 -/
def laws_toRev.f (a0 : S240) : Option (S238) := (some (⟨a0.f0, a0.f1⟩ : S238))
set_option maxHeartbeats 16000000 in
theorem laws_toRev.calls {a0 : S240} {r : S238} {w : World} (h : laws_toRev.f a0 = some r) :
    Calls Tryz.prog 176 #[.agg #[.int .i64 a0.f0, .int .i64 a0.f1]] w (fun e w' => e = .returned (.agg #[.int .i64 r.f0, .int .i64 r.f1]) ∧ Hp noFP w w' []) := by
 have HS := Hp.start w
 have H := Aside0.mk h
 clear h
 unfold laws_toRev.f at H
 go_enter Tryz.func176, Tryz.ntmps176
 obtain rfl := zsome H
 go_wp2_with (first | ((with_reducible refine gate_dst (N := 1) rfl ?_); refine ev_box rfl HS (by first | (go_simp; done) | (go_simp; rfl)) rfl ?_; clear HS; (try clear F); intro g1 w1 HS; (try simp only [hpn, hpm] at HS); have F := HS.boxes; simp only [bxn] at F) | ((with_reducible refine gate_dst (N := 2) rfl ?_); refine ev_box rfl HS (by first | (go_simp; done) | (go_simp; rfl)) rfl ?_; clear HS; (try clear F); intro g2 w2 HS; (try simp only [hpn, hpm] at HS); have F := HS.boxes; simp only [bxn] at F) | ((with_reducible refine gate_dst (N := 3) rfl ?_); refine ev_box rfl HS (by first | (go_simp; done) | (go_simp; rfl)) rfl ?_; clear HS; (try clear F); intro g3 w3 HS; (try simp only [hpn, hpm] at HS); have F := HS.boxes; simp only [bxn] at F) | ((with_reducible refine gate_store (p := 6) rfl ?_); refine ev_store rfl 2 0 HS (seg := [.int .i64 a0.f0]) rfl rfl rfl rfl rfl rfl (by kernel_rfl) (by simp [wrt]) (by simp [Value.oneCell']) ?_; clear HS; (try clear F); intro w7 HS; (try simp only [hpn, hpm] at HS); have F := HS.boxes; simp only [bxn] at F) | ((with_reducible refine gate_store (p := 9) rfl ?_); refine ev_store rfl 2 1 HS (seg := [.int .i64 a0.f1]) rfl rfl rfl rfl rfl rfl (by kernel_rfl) (by simp [wrt]) (by simp [Value.oneCell']) ?_; clear HS; (try clear F); intro w9 HS; (try simp only [hpn, hpm] at HS); have F := HS.boxes; simp only [bxn] at F) | ((with_reducible refine gate_store (p := 2) rfl ?_); refine ev_store rfl 1 0 HS (seg := [.int .i64 a0.f0, .int .i64 a0.f1]) rfl rfl rfl rfl rfl rfl (by kernel_rfl) (by simp [wrt]) (by simp [Value.oneCell']) ?_; clear HS; (try clear F); intro w11 HS; (try simp only [hpn, hpm] at HS); have F := HS.boxes; simp only [bxn] at F))
 exact bodyPost_ret (results_single rfl (.cell _ _ _ _ _ rfl (HS.boxAt (i := 1) rfl) Tryz.underlying238 rfl (by kernel_rfl) .nil)) rfl ⟨rfl, HS.pick [] (by decide) (by rfl)⟩
/-! ### laws_toRevS: function 107 -/
def laws_toRevS.l0 : Nat → (List S238) → Int → (List S240) → Option ((List S238))
  | 0, _, _, _ => none
  | k + 1, l20, x22, a0 => (if x22 < (a0.length : Int) then (if 0 ≤ x22 then (if x22 < (a0.length : Int) then ((laws_toRev.f (rd_T240 a0 x22)).bind fun t28 => (laws_toRevS.l0 k (l20.set (x22).toNat t28) (wrap64 (x22 + 1)) a0)) else none) else none) else (some l20))
def laws_toRevS.f (k : Nat) (a0 : (List S240)) : Option ((List S238)) := (if 0 ≤ (a0.length : Int) then (if ((a0.length : Int)).toNat ≤ 17592186044416 then (laws_toRevS.l0 k (List.replicate a0.length z238) 0 a0) else none) else none)
set_option maxHeartbeats 16000000 in
theorem laws_toRevS.calls {k : Nat} {a0 : (List S240)} {Ap0 : Option Addr} {np0 cp0 : Nat} {r : (List S238)} {w : World} (h : laws_toRevS.f k a0 = some r) (gp0 : k240.C w Ap0 np0 a0) (lp0 : np0 ≤ cp0) :
    Calls Tryz.prog 107 #[.slice Ap0 np0 cp0] w (fun e w' => ∃ v0_ : Value, e = .returned (v0_) ∧ Hp noFP w w' [.own (Zd.slice 238 q238) r [v0_]]) := by
 obtain rfl := C_len gp0
 have HS := Hp.start w
 have H := Aside0.mk h
 clear h
 unfold laws_toRevS.f at H
 go_enter Tryz.func107, Tryz.ntmps107
 by_cases c1 : 0 ≤ (a0.length : Int)
 case neg => exact zno c1 H
 replace H := zpos c1 H
 replace c1 := eq_true c1
 by_cases c2 : ((a0.length : Int)).toNat ≤ 17592186044416
 case neg => exact zno c2 H
 replace H := zpos c2 H
 replace c2 := eq_true c2
 go_wp2_with (first | ((with_reducible refine gate_dst (N := 7) rfl ?_); refine ev_make rfl q238 z238 HS rfl (a0.length : Int) rfl rfl Tryz.underlying79 info238 rfl (by decide) (by decide) q238_zero (of_eq_true c1) (by have := of_eq_true c2; omega) ?_; clear HS; (try clear F); intro v3 w3 HS; obtain ⟨B3, d3, rfl, m3⟩ := HS.formn a0.length 0 rfl (by first | rfl | simp); (try simp only [hpn, hpm] at HS)))
 go_loopg [4] k (fun kq v_4 w' => ∃ (l20 : List S238) (x22 : Int), v_4 = .int .i64 x22 ∧ Aside0 (laws_toRevS.l0 kq l20 x22 a0 = some r) ∧ Aside0 (kq ≤ k) ∧ Hp noFP w w' [.own (Zd.slice 238 q238) l20 [.slice B3 a0.length d3]])
 case atStart => exact ⟨_, _, rfl, H, ⟨Nat.le_refl _⟩, HS⟩
 case round =>
  clear HS H; (try clear F)
  obtain ⟨l20, x22, rfl, H, HKk19, HS⟩ := hrel
  cases gk with
  | zero => exact absurd H.out (by simp [laws_toRevS.l0])
  | succ k19 =>
   simp only [laws_toRevS.l0] at H
   by_cases c24 : x22 < (a0.length : Int)
   case neg =>
    replace H := zneg c24 H
    replace c24 := eq_false c24
    obtain rfl := zsome H
    go_wp2
    exact bodyPost_ret (results_single rfl (.tmp .nil)) rfl ⟨_, rfl, HS.pick [0] (by decide) (by rfl)⟩
   replace H := zpos c24 H
   replace c24 := eq_true c24
   by_cases c25 : 0 ≤ x22
   case neg => exact zno c25 H
   replace H := zpos c25 H
   replace c25 := eq_true c25
   by_cases c26 : x22 < (a0.length : Int)
   case neg => exact zno c26 H
   replace H := zpos c26 H
   replace c26 := eq_true c26
   obtain ⟨ad27, rfl, e27_0, e27_1⟩ := at_T240 gp0 x22 (of_eq_true c25) (of_eq_true c26)
   have e27_0_27 := (HS.keepc e27_0)
   have e27_1_27 := (HS.keepc e27_1)
   replace H := zbind H; obtain ⟨t28, ht28, H⟩ := H
   go_wp2_with (first | ((with_reducible refine gate_dst (N := 20) rfl ?_); refine ev_call rfl Tryz.func176 (by kernel_rfl) rfl #[.agg #[.int .i64 ((rd_T240 a0 x22).f0), .int .i64 ((rd_T240 a0 x22).f1)]] rfl (by simp only [mpn]; rfl) ?_; refine (laws_toRev.calls ht28.out).mono ?_; rintro _ wt28 ⟨rfl, HQ⟩; refine ⟨_, rfl, ?_⟩; replace HS := HS.call HQ; clear HQ; (try clear F); (try simp only [hpn, hpm] at HS); obtain ⟨ad30, rfl, e30_0, e30_1⟩ := at_T238 (HS.rd 0 rfl) x22 (of_eq_true c25) (of_eq_true c26)) | ((with_reducible refine gate_store (p := 21) rfl ?_); refine ev_set rfl q238 0 [] x22 t28 HS (seg := [.int .i64 t28.f0, .int .i64 t28.f1]) rfl (by decide) rfl rfl rfl (by first | rfl | exact (Nat.mul_one _).symm) rfl rfl (by kernel_rfl) (by simp [Value.oneCell']) ⟨of_eq_true c25, of_eq_true c26⟩ rfl (made_flat (fun _ => q238_flat _ _ _)) ?_; clear HS; (try clear F); intro w31 HS; (try simp only [hpn, hpm] at HS)))
   go_roundg k19
   case measure => have := HKk19.out; omega
   case rel => exact ⟨_, _, rfl, H, ⟨by have := HKk19.out; omega⟩, HS.pick [0] (by decide) (by rfl)⟩
/-! ### laws_toCrl: function 28 -/
def laws_toCrl.f (k : Nat) (a0 : S75) : Option (S81) := ((laws_toRevS.f k a0.f5).bind fun t17 => (some (⟨a0.f0, a0.f1, a0.f2, a0.f3, a0.f4, t17, a0.f6⟩ : S81)))
set_option maxHeartbeats 16000000 in
theorem laws_toCrl.calls {k : Nat} {a0 : S75} {Ap0 : Option Addr} {np0 cp0 : Nat} {r : S81} {w : World} (h : laws_toCrl.f k a0 = some r) (gp0 : k240.C w Ap0 np0 a0.f5) (lp0 : np0 ≤ cp0) :
    Calls Tryz.prog 28 #[.agg #[.string a0.f0, .int .i64 a0.f1, .int .i64 a0.f2, .int .i64 a0.f3, .int .i64 a0.f4, .slice Ap0 np0 cp0, .string a0.f6]] w (fun e w' => ∃ v0_ : Value, e = .returned (.agg #[.string r.f0, .int .i64 r.f1, .int .i64 r.f2, .int .i64 r.f3, .int .i64 r.f4, v0_, .string r.f6]) ∧ Hp noFP w w' [.own (Zd.slice 238 q238) r.f5 [v0_]]) := by
 obtain rfl := C_len gp0
 have HS := Hp.start w
 have H := Aside0.mk h
 clear h
 unfold laws_toCrl.f at H
 go_enter Tryz.func28, Tryz.ntmps28
 replace H := zbind H; obtain ⟨t17, ht17, H⟩ := H
 obtain rfl := zsome H
 go_wp2_with (first | ((with_reducible refine gate_dst (N := 1) rfl ?_); refine ev_box rfl HS (by first | (go_simp; done) | (go_simp; rfl)) rfl ?_; clear HS; (try clear F); intro g1 w1 HS; (try simp only [hpn, hpm] at HS); have F := HS.boxes; simp only [bxn] at F) | ((with_reducible refine gate_dst (N := 2) rfl ?_); refine ev_box rfl HS (by first | (go_simp; done) | (go_simp; rfl)) rfl ?_; clear HS; (try clear F); intro g2 w2 HS; (try simp only [hpn, hpm] at HS); have F := HS.boxes; simp only [bxn] at F) | ((with_reducible refine gate_dst (N := 3) rfl ?_); refine ev_box rfl HS (by first | (go_simp; done) | (go_simp; rfl)) rfl ?_; clear HS; (try clear F); intro g3 w3 HS; (try simp only [hpn, hpm] at HS); have F := HS.boxes; simp only [bxn] at F) | ((with_reducible refine gate_store (p := 6) rfl ?_); refine ev_store rfl 2 0 HS (seg := [.string a0.f0]) rfl rfl rfl rfl rfl rfl (by kernel_rfl) (by simp [wrt]) (by simp [Value.oneCell']) ?_; clear HS; (try clear F); intro w7 HS; (try simp only [hpn, hpm] at HS); have F := HS.boxes; simp only [bxn] at F) | ((with_reducible refine gate_store (p := 9) rfl ?_); refine ev_store rfl 2 1 HS (seg := [.int .i64 a0.f1]) rfl rfl rfl rfl rfl rfl (by kernel_rfl) (by simp [wrt]) (by simp [Value.oneCell']) ?_; clear HS; (try clear F); intro w9 HS; (try simp only [hpn, hpm] at HS); have F := HS.boxes; simp only [bxn] at F) | ((with_reducible refine gate_store (p := 12) rfl ?_); refine ev_store rfl 2 2 HS (seg := [.int .i64 a0.f2]) rfl rfl rfl rfl rfl rfl (by kernel_rfl) (by simp [wrt]) (by simp [Value.oneCell']) ?_; clear HS; (try clear F); intro w11 HS; (try simp only [hpn, hpm] at HS); have F := HS.boxes; simp only [bxn] at F) | ((with_reducible refine gate_store (p := 15) rfl ?_); refine ev_store rfl 2 3 HS (seg := [.int .i64 a0.f3]) rfl rfl rfl rfl rfl rfl (by kernel_rfl) (by simp [wrt]) (by simp [Value.oneCell']) ?_; clear HS; (try clear F); intro w13 HS; (try simp only [hpn, hpm] at HS); have F := HS.boxes; simp only [bxn] at F) | ((with_reducible refine gate_store (p := 18) rfl ?_); refine ev_store rfl 2 4 HS (seg := [.int .i64 a0.f4]) rfl rfl rfl rfl rfl rfl (by kernel_rfl) (by simp [wrt]) (by simp [Value.oneCell']) ?_; clear HS; (try clear F); intro w15 HS; (try simp only [hpn, hpm] at HS); have F := HS.boxes; simp only [bxn] at F) | ((with_reducible refine gate_dst (N := 21) rfl ?_); refine ev_call rfl Tryz.func107 (by kernel_rfl) rfl #[.slice Ap0 a0.f5.length cp0] rfl (by simp only [mpn]; rfl) ?_; refine (laws_toRevS.calls ht17.out (HS.ro gp0) lp0).mono ?_; rintro _ wt17 ⟨v18, rfl, HQ⟩; refine ⟨_, rfl, ?_⟩; replace HS := HS.call HQ; clear HQ; (try clear F); obtain ⟨B18, d18, rfl, m18⟩ := HS.form 3 rfl; (try simp only [hpn, hpm] at HS); have F := HS.boxes; simp only [bxn] at F) | ((with_reducible refine gate_store (p := 22) rfl ?_); refine ev_store rfl 2 5 HS (seg := [.slice B18 t17.length d18]) rfl rfl rfl rfl rfl rfl (by kernel_rfl) (by simp [wrt]) (by simp [Value.oneCell']) ?_; clear HS; (try clear F); intro w20 HS; (try simp only [hpn, hpm] at HS); have F := HS.boxes; simp only [bxn] at F) | ((with_reducible refine gate_store (p := 25) rfl ?_); refine ev_store rfl 2 6 HS (seg := [.string a0.f6]) rfl rfl rfl rfl rfl rfl (by kernel_rfl) (by simp [wrt]) (by simp [Value.oneCell']) ?_; clear HS; (try clear F); intro w22 HS; (try simp only [hpn, hpm] at HS); have F := HS.boxes; simp only [bxn] at F) | ((with_reducible refine gate_store (p := 2) rfl ?_); refine ev_store rfl 1 0 HS (seg := [.string a0.f0, .int .i64 a0.f1, .int .i64 a0.f2, .int .i64 a0.f3, .int .i64 a0.f4, .slice B18 t17.length d18, .string a0.f6]) rfl rfl rfl rfl rfl rfl (by kernel_rfl) (by simp [wrt]) (by simp [Value.oneCell']) ?_; clear HS; (try clear F); intro w24 HS; (try simp only [hpn, hpm] at HS); have F := HS.boxes; simp only [bxn] at F))
 exact bodyPost_ret (results_single rfl (.cell _ _ _ _ _ rfl (HS.boxAt (i := 1) rfl) Tryz.underlying81 rfl (by kernel_rfl) .nil)) rfl ⟨_, rfl, HS.pick [3] (by decide) (by rfl)⟩
/-! ### laws_toCrlS: function 59 -/
def laws_toCrlS.l0 : Nat → (List S81) → Int → (List S75) → Option ((List S81))
  | 0, _, _, _ => none
  | k + 1, l21, x23, a0 => (if x23 < (a0.length : Int) then (if 0 ≤ x23 then (if x23 < (a0.length : Int) then ((laws_toCrl.f k (rd_T75 a0 x23)).bind fun t29 => (laws_toCrlS.l0 k (l21.set (x23).toNat t29) (wrap64 (x23 + 1)) a0)) else none) else none) else (some l21))
def laws_toCrlS.f (k : Nat) (a0 : (List S75)) : Option ((List S81)) := (if 0 ≤ (a0.length : Int) then (if ((a0.length : Int)).toNat ≤ 3198579280802 then (laws_toCrlS.l0 k (List.replicate a0.length z81) 0 a0) else none) else none)
set_option maxHeartbeats 16000000 in
theorem laws_toCrlS.calls {k : Nat} {a0 : (List S75)} {Ap0 : Option Addr} {np0 cp0 : Nat} {r : (List S81)} {w : World} (h : laws_toCrlS.f k a0 = some r) (gp0 : k75.C w Ap0 np0 a0) (lp0 : np0 ≤ cp0) :
    Calls Tryz.prog 59 #[.slice Ap0 np0 cp0] w (fun e w' => ∃ v0_ : Value, e = .returned (v0_) ∧ Hp noFP w w' [.own (Zd.slice 81 q81) r [v0_]]) := by
 obtain rfl := C_len gp0
 have HS := Hp.start w
 have H := Aside0.mk h
 clear h
 unfold laws_toCrlS.f at H
 go_enter Tryz.func59, Tryz.ntmps59
 by_cases c1 : 0 ≤ (a0.length : Int)
 case neg => exact zno c1 H
 replace H := zpos c1 H
 replace c1 := eq_true c1
 by_cases c2 : ((a0.length : Int)).toNat ≤ 3198579280802
 case neg => exact zno c2 H
 replace H := zpos c2 H
 replace c2 := eq_true c2
 go_wp2_with (first | ((with_reducible refine gate_dst (N := 7) rfl ?_); refine ev_make rfl q81 z81 HS rfl (a0.length : Int) rfl rfl Tryz.underlying30 info81 rfl (by decide) (by decide) q81_zero (of_eq_true c1) (by have := of_eq_true c2; omega) ?_; clear HS; (try clear F); intro v3 w3 HS; obtain ⟨B3, d3, rfl, m3⟩ := HS.formn a0.length 0 rfl (by first | rfl | simp); (try simp only [hpn, hpm] at HS)))
 go_loopg [4] k (fun kq v_4 w' => ∃ (l21 : List S81) (x23 : Int), v_4 = .int .i64 x23 ∧ Aside0 (laws_toCrlS.l0 kq l21 x23 a0 = some r) ∧ Aside0 (kq ≤ k) ∧ Hp noFP w w' [.own (Zd.slice 81 q81) l21 [.slice B3 a0.length d3]])
 case atStart => exact ⟨_, _, rfl, H, ⟨Nat.le_refl _⟩, HS⟩
 case round =>
  clear HS H; (try clear F)
  obtain ⟨l21, x23, rfl, H, HKk20, HS⟩ := hrel
  cases gk with
  | zero => exact absurd H.out (by simp [laws_toCrlS.l0])
  | succ k20 =>
   simp only [laws_toCrlS.l0] at H
   by_cases c25 : x23 < (a0.length : Int)
   case neg =>
    replace H := zneg c25 H
    replace c25 := eq_false c25
    obtain rfl := zsome H
    go_wp2
    exact bodyPost_ret (results_single rfl (.tmp .nil)) rfl ⟨_, rfl, HS.pick [0] (by decide) (by rfl)⟩
   replace H := zpos c25 H
   replace c25 := eq_true c25
   by_cases c26 : 0 ≤ x23
   case neg => exact zno c26 H
   replace H := zpos c26 H
   replace c26 := eq_true c26
   by_cases c27 : x23 < (a0.length : Int)
   case neg => exact zno c27 H
   replace H := zpos c27 H
   replace c27 := eq_true c27
   obtain ⟨ad28, B28_5, d28_5, rfl, e28_0, e28_1, e28_2, e28_3, e28_4, e28_5, e28_6, m28_5, y28_5⟩ := at_T75 gp0 x23 (of_eq_true c26) (of_eq_true c27)
   have e28_0_28 := (HS.keepc e28_0)
   have e28_1_28 := (HS.keepc e28_1)
   have e28_2_28 := (HS.keepc e28_2)
   have e28_3_28 := (HS.keepc e28_3)
   have e28_4_28 := (HS.keepc e28_4)
   have e28_5_28 := (HS.keepc e28_5)
   have e28_6_28 := (HS.keepc e28_6)
   replace H := zbind H; obtain ⟨t29, ht29, H⟩ := H
   go_wp2_with (first | ((with_reducible refine gate_dst (N := 20) rfl ?_); refine ev_call rfl Tryz.func28 (by kernel_rfl) rfl #[.agg #[.string ((rd_T75 a0 x23).f0), .int .i64 ((rd_T75 a0 x23).f1), .int .i64 ((rd_T75 a0 x23).f2), .int .i64 ((rd_T75 a0 x23).f3), .int .i64 ((rd_T75 a0 x23).f4), .slice B28_5 (rd_T75 a0 x23).f5.length d28_5, .string ((rd_T75 a0 x23).f6)]] rfl (by simp only [mpn]; rfl) ?_; refine (laws_toCrl.calls ht29.out (HS.ro y28_5) m28_5).mono ?_; rintro _ wt29 ⟨v30, rfl, HQ⟩; refine ⟨_, rfl, ?_⟩; replace HS := HS.call HQ; clear HQ; (try clear F); obtain ⟨B30, d30, rfl, m30⟩ := HS.form 1 rfl; (try simp only [hpn, hpm] at HS); obtain ⟨ad32, B32_5, d32_5, rfl, e32_0, e32_1, e32_2, e32_3, e32_4, e32_5, e32_6, m32_5, y32_5⟩ := at_T81 (HS.rd 0 rfl) x23 (of_eq_true c26) (of_eq_true c27)) | ((with_reducible refine gate_store (p := 21) rfl ?_); refine ev_set rfl q81 0 [1] x23 t29 HS (seg := [.string t29.f0, .int .i64 t29.f1, .int .i64 t29.f2, .int .i64 t29.f3, .int .i64 t29.f4, .slice B30 t29.f5.length d30, .string t29.f6]) rfl (by decide) rfl rfl rfl (by first | rfl | exact (Nat.mul_one _).symm) rfl rfl (by kernel_rfl) (by simp [Value.oneCell']) ⟨of_eq_true c26, of_eq_true c27⟩ rfl (fun S hd hh => q81_pack (x := t29) hd (hh 1 (.own (Zd.slice 238 q238) t29.f5 [.slice B30 t29.f5.length d30]) rfl) (by decide)) ?_; clear HS; (try clear F); intro w33 HS; (try simp only [hpn, hpm] at HS)))
   go_roundg k20
   case measure => have := HKk20.out; omega
   case rel => exact ⟨_, _, rfl, H, ⟨by have := HKk20.out; omega⟩, HS.pick [0] (by decide) (by rfl)⟩
/-! ### laws_toAnchor: function 140 -/
def laws_toAnchor.f (a0 : S178) : Option (S115) := (some (⟨a0.f0, a0.f1⟩ : S115))
set_option maxHeartbeats 16000000 in
theorem laws_toAnchor.calls {a0 : S178} {r : S115} {w : World} (h : laws_toAnchor.f a0 = some r) :
    Calls Tryz.prog 140 #[.agg #[.string a0.f0, .string a0.f1]] w (fun e w' => e = .returned (.agg #[.string r.f0, .string r.f1]) ∧ Hp noFP w w' []) := by
 have HS := Hp.start w
 have H := Aside0.mk h
 clear h
 unfold laws_toAnchor.f at H
 go_enter Tryz.func140, Tryz.ntmps140
 obtain rfl := zsome H
 go_wp2_with (first | ((with_reducible refine gate_dst (N := 1) rfl ?_); refine ev_box rfl HS (by first | (go_simp; done) | (go_simp; rfl)) rfl ?_; clear HS; (try clear F); intro g1 w1 HS; (try simp only [hpn, hpm] at HS); have F := HS.boxes; simp only [bxn] at F) | ((with_reducible refine gate_dst (N := 2) rfl ?_); refine ev_box rfl HS (by first | (go_simp; done) | (go_simp; rfl)) rfl ?_; clear HS; (try clear F); intro g2 w2 HS; (try simp only [hpn, hpm] at HS); have F := HS.boxes; simp only [bxn] at F) | ((with_reducible refine gate_dst (N := 3) rfl ?_); refine ev_box rfl HS (by first | (go_simp; done) | (go_simp; rfl)) rfl ?_; clear HS; (try clear F); intro g3 w3 HS; (try simp only [hpn, hpm] at HS); have F := HS.boxes; simp only [bxn] at F) | ((with_reducible refine gate_store (p := 6) rfl ?_); refine ev_store rfl 2 0 HS (seg := [.string a0.f0]) rfl rfl rfl rfl rfl rfl (by kernel_rfl) (by simp [wrt]) (by simp [Value.oneCell']) ?_; clear HS; (try clear F); intro w7 HS; (try simp only [hpn, hpm] at HS); have F := HS.boxes; simp only [bxn] at F) | ((with_reducible refine gate_store (p := 9) rfl ?_); refine ev_store rfl 2 1 HS (seg := [.string a0.f1]) rfl rfl rfl rfl rfl rfl (by kernel_rfl) (by simp [wrt]) (by simp [Value.oneCell']) ?_; clear HS; (try clear F); intro w9 HS; (try simp only [hpn, hpm] at HS); have F := HS.boxes; simp only [bxn] at F) | ((with_reducible refine gate_store (p := 2) rfl ?_); refine ev_store rfl 1 0 HS (seg := [.string a0.f0, .string a0.f1]) rfl rfl rfl rfl rfl rfl (by kernel_rfl) (by simp [wrt]) (by simp [Value.oneCell']) ?_; clear HS; (try clear F); intro w11 HS; (try simp only [hpn, hpm] at HS); have F := HS.boxes; simp only [bxn] at F))
 exact bodyPost_ret (results_single rfl (.cell _ _ _ _ _ rfl (HS.boxAt (i := 1) rfl) Tryz.underlying115 rfl (by kernel_rfl) .nil)) rfl ⟨rfl, HS.pick [] (by decide) (by rfl)⟩
/-! ### laws_toAnchorS: function 60 -/
def laws_toAnchorS.l0 : Nat → (List S115) → Int → (List S178) → Option ((List S115))
  | 0, _, _, _ => none
  | k + 1, l20, x22, a0 => (if x22 < (a0.length : Int) then (if 0 ≤ x22 then (if x22 < (a0.length : Int) then ((laws_toAnchor.f (rd_T178 a0 x22)).bind fun t28 => (laws_toAnchorS.l0 k (l20.set (x22).toNat t28) (wrap64 (x22 + 1)) a0)) else none) else none) else (some l20))
def laws_toAnchorS.f (k : Nat) (a0 : (List S178)) : Option ((List S115)) := (if 0 ≤ (a0.length : Int) then (if ((a0.length : Int)).toNat ≤ 8796093022208 then (laws_toAnchorS.l0 k (List.replicate a0.length z115) 0 a0) else none) else none)
set_option maxHeartbeats 16000000 in
theorem laws_toAnchorS.calls {k : Nat} {a0 : (List S178)} {Ap0 : Option Addr} {np0 cp0 : Nat} {r : (List S115)} {w : World} (h : laws_toAnchorS.f k a0 = some r) (gp0 : k178.C w Ap0 np0 a0) (lp0 : np0 ≤ cp0) :
    Calls Tryz.prog 60 #[.slice Ap0 np0 cp0] w (fun e w' => ∃ v0_ : Value, e = .returned (v0_) ∧ Hp noFP w w' [.own (Zd.slice 115 q115) r [v0_]]) := by
 obtain rfl := C_len gp0
 have HS := Hp.start w
 have H := Aside0.mk h
 clear h
 unfold laws_toAnchorS.f at H
 go_enter Tryz.func60, Tryz.ntmps60
 by_cases c1 : 0 ≤ (a0.length : Int)
 case neg => exact zno c1 H
 replace H := zpos c1 H
 replace c1 := eq_true c1
 by_cases c2 : ((a0.length : Int)).toNat ≤ 8796093022208
 case neg => exact zno c2 H
 replace H := zpos c2 H
 replace c2 := eq_true c2
 go_wp2_with (first | ((with_reducible refine gate_dst (N := 7) rfl ?_); refine ev_make rfl q115 z115 HS rfl (a0.length : Int) rfl rfl Tryz.underlying31 info115 rfl (by decide) (by decide) q115_zero (of_eq_true c1) (by have := of_eq_true c2; omega) ?_; clear HS; (try clear F); intro v3 w3 HS; obtain ⟨B3, d3, rfl, m3⟩ := HS.formn a0.length 0 rfl (by first | rfl | simp); (try simp only [hpn, hpm] at HS)))
 go_loopg [4] k (fun kq v_4 w' => ∃ (l20 : List S115) (x22 : Int), v_4 = .int .i64 x22 ∧ Aside0 (laws_toAnchorS.l0 kq l20 x22 a0 = some r) ∧ Aside0 (kq ≤ k) ∧ Hp noFP w w' [.own (Zd.slice 115 q115) l20 [.slice B3 a0.length d3]])
 case atStart => exact ⟨_, _, rfl, H, ⟨Nat.le_refl _⟩, HS⟩
 case round =>
  clear HS H; (try clear F)
  obtain ⟨l20, x22, rfl, H, HKk19, HS⟩ := hrel
  cases gk with
  | zero => exact absurd H.out (by simp [laws_toAnchorS.l0])
  | succ k19 =>
   simp only [laws_toAnchorS.l0] at H
   by_cases c24 : x22 < (a0.length : Int)
   case neg =>
    replace H := zneg c24 H
    replace c24 := eq_false c24
    obtain rfl := zsome H
    go_wp2
    exact bodyPost_ret (results_single rfl (.tmp .nil)) rfl ⟨_, rfl, HS.pick [0] (by decide) (by rfl)⟩
   replace H := zpos c24 H
   replace c24 := eq_true c24
   by_cases c25 : 0 ≤ x22
   case neg => exact zno c25 H
   replace H := zpos c25 H
   replace c25 := eq_true c25
   by_cases c26 : x22 < (a0.length : Int)
   case neg => exact zno c26 H
   replace H := zpos c26 H
   replace c26 := eq_true c26
   obtain ⟨ad27, rfl, e27_0, e27_1⟩ := at_T178 gp0 x22 (of_eq_true c25) (of_eq_true c26)
   have e27_0_27 := (HS.keepc e27_0)
   have e27_1_27 := (HS.keepc e27_1)
   replace H := zbind H; obtain ⟨t28, ht28, H⟩ := H
   go_wp2_with (first | ((with_reducible refine gate_dst (N := 20) rfl ?_); refine ev_call rfl Tryz.func140 (by kernel_rfl) rfl #[.agg #[.string ((rd_T178 a0 x22).f0), .string ((rd_T178 a0 x22).f1)]] rfl (by simp only [mpn]; rfl) ?_; refine (laws_toAnchor.calls ht28.out).mono ?_; rintro _ wt28 ⟨rfl, HQ⟩; refine ⟨_, rfl, ?_⟩; replace HS := HS.call HQ; clear HQ; (try clear F); (try simp only [hpn, hpm] at HS); obtain ⟨ad30, rfl, e30_0, e30_1⟩ := at_T115 (HS.rd 0 rfl) x22 (of_eq_true c25) (of_eq_true c26)) | ((with_reducible refine gate_store (p := 21) rfl ?_); refine ev_set rfl q115 0 [] x22 t28 HS (seg := [.string t28.f0, .string t28.f1]) rfl (by decide) rfl rfl rfl (by first | rfl | exact (Nat.mul_one _).symm) rfl rfl (by kernel_rfl) (by simp [Value.oneCell']) ⟨of_eq_true c25, of_eq_true c26⟩ rfl (made_flat (fun _ => q115_flat _ _ _)) ?_; clear HS; (try clear F); intro w31 HS; (try simp only [hpn, hpm] at HS)))
   go_roundg k19
   case measure => have := HKk19.out; omega
   case rel => exact ⟨_, _, rfl, H, ⟨by have := HKk19.out; omega⟩, HS.pick [0] (by decide) (by rfl)⟩
/-! ### laws_toStore: function 13 -/
def laws_toStore.f (k : Nat) (a0 : S26) : Option (S33) := ((laws_toCertS.f k a0.f0).bind fun t7 => ((laws_toCrlS.f k a0.f1).bind fun t12 => ((laws_toAnchorS.f k a0.f2).bind fun t17 => (some (⟨t7, t12, t17⟩ : S33)))))
set_option maxHeartbeats 16000000 in
theorem laws_toStore.calls {k : Nat} {a0 : S26} {Ap0 : Option Addr} {np0 cp0 : Nat} {Ap1 : Option Addr} {np1 cp1 : Nat} {Ap2 : Option Addr} {np2 cp2 : Nat} {r : S33} {w : World} (h : laws_toStore.f k a0 = some r) (gp0 : k88.C w Ap0 np0 a0.f0) (lp0 : np0 ≤ cp0) (gp1 : k75.C w Ap1 np1 a0.f1) (lp1 : np1 ≤ cp1) (gp2 : k178.C w Ap2 np2 a0.f2) (lp2 : np2 ≤ cp2) :
    Calls Tryz.prog 13 #[.agg #[.slice Ap0 np0 cp0, .slice Ap1 np1 cp1, .slice Ap2 np2 cp2]] w (fun e w' => ∃ v0_ v1_ v2_ : Value, e = .returned (.agg #[v0_, v1_, v2_]) ∧ Hp noFP w w' [.own (Zd.slice 91 q91) r.f0 [v0_], .own (Zd.slice 81 q81) r.f1 [v1_], .own (Zd.slice 115 q115) r.f2 [v2_]]) := by
 obtain rfl := C_len gp0
 obtain rfl := C_len gp1
 obtain rfl := C_len gp2
 have HS := Hp.start w
 have H := Aside0.mk h
 clear h
 unfold laws_toStore.f at H
 go_enter Tryz.func13, Tryz.ntmps13
 replace H := zbind H; obtain ⟨t7, ht7, H⟩ := H
 replace H := zbind H; obtain ⟨t12, ht12, H⟩ := H
 replace H := zbind H; obtain ⟨t17, ht17, H⟩ := H
 obtain rfl := zsome H
 go_wp2_with (first | ((with_reducible refine gate_dst (N := 1) rfl ?_); refine ev_box rfl HS (by first | (go_simp; done) | (go_simp; rfl)) rfl ?_; clear HS; (try clear F); intro g1 w1 HS; (try simp only [hpn, hpm] at HS); have F := HS.boxes; simp only [bxn] at F) | ((with_reducible refine gate_dst (N := 2) rfl ?_); refine ev_box rfl HS (by first | (go_simp; done) | (go_simp; rfl)) rfl ?_; clear HS; (try clear F); intro g2 w2 HS; (try simp only [hpn, hpm] at HS); have F := HS.boxes; simp only [bxn] at F) | ((with_reducible refine gate_dst (N := 3) rfl ?_); refine ev_box rfl HS (by first | (go_simp; done) | (go_simp; rfl)) rfl ?_; clear HS; (try clear F); intro g3 w3 HS; (try simp only [hpn, hpm] at HS); have F := HS.boxes; simp only [bxn] at F) | ((with_reducible refine gate_dst (N := 6) rfl ?_); refine ev_call rfl Tryz.func58 (by kernel_rfl) rfl #[.slice Ap0 a0.f0.length cp0] rfl (by simp only [mpn]; rfl) ?_; refine (laws_toCertS.calls ht7.out (HS.ro gp0) lp0).mono ?_; rintro _ wt7 ⟨v8, rfl, HQ⟩; refine ⟨_, rfl, ?_⟩; replace HS := HS.call HQ; clear HQ; (try clear F); obtain ⟨B8, d8, rfl, m8⟩ := HS.form 3 rfl; (try simp only [hpn, hpm] at HS); have F := HS.boxes; simp only [bxn] at F) | ((with_reducible refine gate_store (p := 7) rfl ?_); refine ev_store rfl 2 0 HS (seg := [.slice B8 t7.length d8]) rfl rfl rfl rfl rfl rfl (by kernel_rfl) (by simp [wrt]) (by simp [Value.oneCell']) ?_; clear HS; (try clear F); intro w10 HS; (try simp only [hpn, hpm] at HS); have F := HS.boxes; simp only [bxn] at F) | ((with_reducible refine gate_dst (N := 10) rfl ?_); refine ev_call rfl Tryz.func59 (by kernel_rfl) rfl #[.slice Ap1 a0.f1.length cp1] rfl (by simp only [mpn]; rfl) ?_; refine (laws_toCrlS.calls ht12.out (HS.ro gp1) lp1).mono ?_; rintro _ wt12 ⟨v13, rfl, HQ⟩; refine ⟨_, rfl, ?_⟩; replace HS := HS.call HQ; clear HQ; (try clear F); obtain ⟨B13, d13, rfl, m13⟩ := HS.form 4 rfl; (try simp only [hpn, hpm] at HS); have F := HS.boxes; simp only [bxn] at F) | ((with_reducible refine gate_store (p := 11) rfl ?_); refine ev_store rfl 2 1 HS (seg := [.slice B13 t12.length d13]) rfl rfl rfl rfl rfl rfl (by kernel_rfl) (by simp [wrt]) (by simp [Value.oneCell']) ?_; clear HS; (try clear F); intro w15 HS; (try simp only [hpn, hpm] at HS); have F := HS.boxes; simp only [bxn] at F) | ((with_reducible refine gate_dst (N := 14) rfl ?_); refine ev_call rfl Tryz.func60 (by kernel_rfl) rfl #[.slice Ap2 a0.f2.length cp2] rfl (by simp only [mpn]; rfl) ?_; refine (laws_toAnchorS.calls ht17.out (HS.ro gp2) lp2).mono ?_; rintro _ wt17 ⟨v18, rfl, HQ⟩; refine ⟨_, rfl, ?_⟩; replace HS := HS.call HQ; clear HQ; (try clear F); obtain ⟨B18, d18, rfl, m18⟩ := HS.form 5 rfl; (try simp only [hpn, hpm] at HS); have F := HS.boxes; simp only [bxn] at F) | ((with_reducible refine gate_store (p := 15) rfl ?_); refine ev_store rfl 2 2 HS (seg := [.slice B18 t17.length d18]) rfl rfl rfl rfl rfl rfl (by kernel_rfl) (by simp [wrt]) (by simp [Value.oneCell']) ?_; clear HS; (try clear F); intro w20 HS; (try simp only [hpn, hpm] at HS); have F := HS.boxes; simp only [bxn] at F) | ((with_reducible refine gate_store (p := 2) rfl ?_); refine ev_store rfl 1 0 HS (seg := [.slice B8 t7.length d8, .slice B13 t12.length d13, .slice B18 t17.length d18]) rfl rfl rfl rfl rfl rfl (by kernel_rfl) (by simp [wrt]) (by simp [Value.oneCell']) ?_; clear HS; (try clear F); intro w22 HS; (try simp only [hpn, hpm] at HS); have F := HS.boxes; simp only [bxn] at F))
 exact bodyPost_ret (results_single rfl (.cell _ _ _ _ _ rfl (HS.boxAt (i := 1) rfl) Tryz.underlying33 rfl (by kernel_rfl) .nil)) rfl ⟨_, _, _, rfl, HS.pick [3, 4, 5] (by decide) (by rfl)⟩
/-! ### laws_toRules: function 210 -/
def laws_toRules.f (k : Nat) (a0 : S194) : Option (S200) := ((laws_toIntS.f k a0.f1).bind fun t9 => (some (⟨a0.f0, t9, a0.f2, a0.f3, a0.f4⟩ : S200)))
set_option maxHeartbeats 16000000 in
theorem laws_toRules.calls {k : Nat} {a0 : S194} {Ap0 : Option Addr} {np0 cp0 : Nat} {r : S200} {w : World} (h : laws_toRules.f k a0 = some r) (gp0 : (Kd.int .i64).C w Ap0 np0 a0.f1) (lp0 : np0 ≤ cp0) :
    Calls Tryz.prog 210 #[.agg #[.int .i64 a0.f0, .slice Ap0 np0 cp0, .bool a0.f2, .bool a0.f3, .int .i64 a0.f4]] w (fun e w' => ∃ v0_ : Value, e = .returned (.agg #[.int .i64 r.f0, v0_, .bool r.f2, .bool r.f3, .int .i64 r.f4]) ∧ Hp noFP w w' [.own (Zd.slice 3 (Zd.int .i64)) r.f1 [v0_]]) := by
 obtain rfl := C_len gp0
 have HS := Hp.start w
 have H := Aside0.mk h
 clear h
 unfold laws_toRules.f at H
 go_enter Tryz.func210, Tryz.ntmps210
 replace H := zbind H; obtain ⟨t9, ht9, H⟩ := H
 obtain rfl := zsome H
 go_wp2_with (first | ((with_reducible refine gate_dst (N := 1) rfl ?_); refine ev_box rfl HS (by first | (go_simp; done) | (go_simp; rfl)) rfl ?_; clear HS; (try clear F); intro g1 w1 HS; (try simp only [hpn, hpm] at HS); have F := HS.boxes; simp only [bxn] at F) | ((with_reducible refine gate_dst (N := 2) rfl ?_); refine ev_box rfl HS (by first | (go_simp; done) | (go_simp; rfl)) rfl ?_; clear HS; (try clear F); intro g2 w2 HS; (try simp only [hpn, hpm] at HS); have F := HS.boxes; simp only [bxn] at F) | ((with_reducible refine gate_dst (N := 3) rfl ?_); refine ev_box rfl HS (by first | (go_simp; done) | (go_simp; rfl)) rfl ?_; clear HS; (try clear F); intro g3 w3 HS; (try simp only [hpn, hpm] at HS); have F := HS.boxes; simp only [bxn] at F) | ((with_reducible refine gate_store (p := 6) rfl ?_); refine ev_store rfl 2 0 HS (seg := [.int .i64 a0.f0]) rfl rfl rfl rfl rfl rfl (by kernel_rfl) (by simp [wrt]) (by simp [Value.oneCell']) ?_; clear HS; (try clear F); intro w7 HS; (try simp only [hpn, hpm] at HS); have F := HS.boxes; simp only [bxn] at F) | ((with_reducible refine gate_dst (N := 9) rfl ?_); refine ev_call rfl Tryz.func93 (by kernel_rfl) rfl #[.slice Ap0 a0.f1.length cp0] rfl (by simp only [mpn]; rfl) ?_; refine (laws_toIntS.calls ht9.out (HS.ro gp0) lp0).mono ?_; rintro _ wt9 ⟨v10, rfl, HQ⟩; refine ⟨_, rfl, ?_⟩; replace HS := HS.call HQ; clear HQ; (try clear F); obtain ⟨B10, d10, rfl, m10⟩ := HS.form 3 rfl; (try simp only [hpn, hpm] at HS); have F := HS.boxes; simp only [bxn] at F) | ((with_reducible refine gate_store (p := 10) rfl ?_); refine ev_store rfl 2 1 HS (seg := [.slice B10 t9.length d10]) rfl rfl rfl rfl rfl rfl (by kernel_rfl) (by simp [wrt]) (by simp [Value.oneCell']) ?_; clear HS; (try clear F); intro w12 HS; (try simp only [hpn, hpm] at HS); have F := HS.boxes; simp only [bxn] at F) | ((with_reducible refine gate_store (p := 13) rfl ?_); refine ev_store rfl 2 2 HS (seg := [.bool a0.f2]) rfl rfl rfl rfl rfl rfl (by kernel_rfl) (by simp [wrt]) (by simp [Value.oneCell']) ?_; clear HS; (try clear F); intro w14 HS; (try simp only [hpn, hpm] at HS); have F := HS.boxes; simp only [bxn] at F) | ((with_reducible refine gate_store (p := 16) rfl ?_); refine ev_store rfl 2 3 HS (seg := [.bool a0.f3]) rfl rfl rfl rfl rfl rfl (by kernel_rfl) (by simp [wrt]) (by simp [Value.oneCell']) ?_; clear HS; (try clear F); intro w16 HS; (try simp only [hpn, hpm] at HS); have F := HS.boxes; simp only [bxn] at F) | ((with_reducible refine gate_store (p := 19) rfl ?_); refine ev_store rfl 2 4 HS (seg := [.int .i64 a0.f4]) rfl rfl rfl rfl rfl rfl (by kernel_rfl) (by simp [wrt]) (by simp [Value.oneCell']) ?_; clear HS; (try clear F); intro w18 HS; (try simp only [hpn, hpm] at HS); have F := HS.boxes; simp only [bxn] at F) | ((with_reducible refine gate_store (p := 2) rfl ?_); refine ev_store rfl 1 0 HS (seg := [.int .i64 a0.f0, .slice B10 t9.length d10, .bool a0.f2, .bool a0.f3, .int .i64 a0.f4]) rfl rfl rfl rfl rfl rfl (by kernel_rfl) (by simp [wrt]) (by simp [Value.oneCell']) ?_; clear HS; (try clear F); intro w20 HS; (try simp only [hpn, hpm] at HS); have F := HS.boxes; simp only [bxn] at F))
 exact bodyPost_ret (results_single rfl (.cell _ _ _ _ _ rfl (HS.boxAt (i := 1) rfl) Tryz.underlying200 rfl (by kernel_rfl) .nil)) rfl ⟨_, rfl, HS.pick [3] (by decide) (by rfl)⟩
/-! ### laws_toPlan: function 154 -/
def laws_toPlan.f (k : Nat) (a0 : S196) : Option (S202) := ((laws_toIntS.f k a0.f1).bind fun t9 => ((laws_toRules.f k a0.f2).bind fun t14 => (some (⟨a0.f0, t9, (⟨t14.f0, t14.f1, t14.f2, t14.f3, t14.f4⟩ : S200)⟩ : S202))))
set_option maxHeartbeats 16000000 in
theorem laws_toPlan.calls {k : Nat} {a0 : S196} {Ap0 : Option Addr} {np0 cp0 : Nat} {Ap1 : Option Addr} {np1 cp1 : Nat} {r : S202} {w : World} (h : laws_toPlan.f k a0 = some r) (gp0 : (Kd.int .i64).C w Ap0 np0 a0.f1) (lp0 : np0 ≤ cp0) (gp1 : (Kd.int .i64).C w Ap1 np1 a0.f2.f1) (lp1 : np1 ≤ cp1) :
    Calls Tryz.prog 154 #[.agg #[.int .i64 a0.f0, .slice Ap0 np0 cp0, .int .i64 a0.f2.f0, .slice Ap1 np1 cp1, .bool a0.f2.f2, .bool a0.f2.f3, .int .i64 a0.f2.f4]] w (fun e w' => ∃ v0_ v1_ : Value, e = .returned (.agg #[.int .i64 r.f0, v0_, .int .i64 r.f2.f0, v1_, .bool r.f2.f2, .bool r.f2.f3, .int .i64 r.f2.f4]) ∧ Hp noFP w w' [.own (Zd.slice 3 (Zd.int .i64)) r.f1 [v0_], .own (Zd.slice 3 (Zd.int .i64)) r.f2.f1 [v1_]]) := by
 obtain rfl := C_len gp0
 obtain rfl := C_len gp1
 have HS := Hp.start w
 have H := Aside0.mk h
 clear h
 unfold laws_toPlan.f at H
 go_enter Tryz.func154, Tryz.ntmps154
 replace H := zbind H; obtain ⟨t9, ht9, H⟩ := H
 replace H := zbind H; obtain ⟨t14, ht14, H⟩ := H
 obtain rfl := zsome H
 go_wp2_with (first | ((with_reducible refine gate_dst (N := 1) rfl ?_); refine ev_box rfl HS (by first | (go_simp; done) | (go_simp; rfl)) rfl ?_; clear HS; (try clear F); intro g1 w1 HS; (try simp only [hpn, hpm] at HS); have F := HS.boxes; simp only [bxn] at F) | ((with_reducible refine gate_dst (N := 2) rfl ?_); refine ev_box rfl HS (by first | (go_simp; done) | (go_simp; rfl)) rfl ?_; clear HS; (try clear F); intro g2 w2 HS; (try simp only [hpn, hpm] at HS); have F := HS.boxes; simp only [bxn] at F) | ((with_reducible refine gate_dst (N := 3) rfl ?_); refine ev_box rfl HS (by first | (go_simp; done) | (go_simp; rfl)) rfl ?_; clear HS; (try clear F); intro g3 w3 HS; (try simp only [hpn, hpm] at HS); have F := HS.boxes; simp only [bxn] at F) | ((with_reducible refine gate_store (p := 6) rfl ?_); refine ev_store rfl 2 0 HS (seg := [.int .i64 a0.f0]) rfl rfl rfl rfl rfl rfl (by kernel_rfl) (by simp [wrt]) (by simp [Value.oneCell']) ?_; clear HS; (try clear F); intro w7 HS; (try simp only [hpn, hpm] at HS); have F := HS.boxes; simp only [bxn] at F) | ((with_reducible refine gate_dst (N := 9) rfl ?_); refine ev_call rfl Tryz.func93 (by kernel_rfl) rfl #[.slice Ap0 a0.f1.length cp0] rfl (by simp only [mpn]; rfl) ?_; refine (laws_toIntS.calls ht9.out (HS.ro gp0) lp0).mono ?_; rintro _ wt9 ⟨v10, rfl, HQ⟩; refine ⟨_, rfl, ?_⟩; replace HS := HS.call HQ; clear HQ; (try clear F); obtain ⟨B10, d10, rfl, m10⟩ := HS.form 3 rfl; (try simp only [hpn, hpm] at HS); have F := HS.boxes; simp only [bxn] at F) | ((with_reducible refine gate_store (p := 10) rfl ?_); refine ev_store rfl 2 1 HS (seg := [.slice B10 t9.length d10]) rfl rfl rfl rfl rfl rfl (by kernel_rfl) (by simp [wrt]) (by simp [Value.oneCell']) ?_; clear HS; (try clear F); intro w12 HS; (try simp only [hpn, hpm] at HS); have F := HS.boxes; simp only [bxn] at F) | ((with_reducible refine gate_dst (N := 13) rfl ?_); refine ev_call rfl Tryz.func210 (by kernel_rfl) rfl #[.agg #[.int .i64 a0.f2.f0, .slice Ap1 a0.f2.f1.length cp1, .bool a0.f2.f2, .bool a0.f2.f3, .int .i64 a0.f2.f4]] rfl (by simp only [mpn]; rfl) ?_; refine (laws_toRules.calls ht14.out (HS.ro gp1) lp1).mono ?_; rintro _ wt14 ⟨v15, rfl, HQ⟩; refine ⟨_, rfl, ?_⟩; replace HS := HS.call HQ; clear HQ; (try clear F); obtain ⟨B15, d15, rfl, m15⟩ := HS.form 4 rfl; (try simp only [hpn, hpm] at HS); have F := HS.boxes; simp only [bxn] at F) | ((with_reducible refine gate_store (p := 14) rfl ?_); refine ev_store rfl 2 2 HS (seg := [.int .i64 t14.f0, .slice B15 t14.f1.length d15, .bool t14.f2, .bool t14.f3, .int .i64 t14.f4]) rfl rfl rfl rfl rfl rfl (by kernel_rfl) (by simp [wrt]) (by simp [Value.oneCell']) ?_; clear HS; (try clear F); intro w17 HS; (try simp only [hpn, hpm] at HS); have F := HS.boxes; simp only [bxn] at F) | ((with_reducible refine gate_store (p := 2) rfl ?_); refine ev_store rfl 1 0 HS (seg := [.int .i64 a0.f0, .slice B10 t9.length d10, .int .i64 t14.f0, .slice B15 t14.f1.length d15, .bool t14.f2, .bool t14.f3, .int .i64 t14.f4]) rfl rfl rfl rfl rfl rfl (by kernel_rfl) (by simp [wrt]) (by simp [Value.oneCell']) ?_; clear HS; (try clear F); intro w19 HS; (try simp only [hpn, hpm] at HS); have F := HS.boxes; simp only [bxn] at F))
 exact bodyPost_ret (results_single rfl (.cell _ _ _ _ _ rfl (HS.boxAt (i := 1) rfl) Tryz.underlying202 rfl (by kernel_rfl) .nil)) rfl ⟨_, _, rfl, HS.pick [3, 4] (by decide) (by rfl)⟩
/-! ### laws_toPlanS: function 76 -/
def laws_toPlanS.l0 : Nat → (List S202) → Int → (List S196) → Option ((List S202))
  | 0, _, _, _ => none
  | k + 1, l22, x24, a0 => (if x24 < (a0.length : Int) then (if 0 ≤ x24 then (if x24 < (a0.length : Int) then ((laws_toPlan.f k (rd_T196 a0 x24)).bind fun t30 => (laws_toPlanS.l0 k (l22.set (x24).toNat t30) (wrap64 (x24 + 1)) a0)) else none) else none) else (some l22))
def laws_toPlanS.f (k : Nat) (a0 : (List S196)) : Option ((List S202)) := (if 0 ≤ (a0.length : Int) then (if ((a0.length : Int)).toNat ≤ 3518437208883 then (laws_toPlanS.l0 k (List.replicate a0.length z202) 0 a0) else none) else none)
set_option maxHeartbeats 16000000 in
theorem laws_toPlanS.calls {k : Nat} {a0 : (List S196)} {Ap0 : Option Addr} {np0 cp0 : Nat} {r : (List S202)} {w : World} (h : laws_toPlanS.f k a0 = some r) (gp0 : k196.C w Ap0 np0 a0) (lp0 : np0 ≤ cp0) :
    Calls Tryz.prog 76 #[.slice Ap0 np0 cp0] w (fun e w' => ∃ v0_ : Value, e = .returned (v0_) ∧ Hp noFP w w' [.own (Zd.slice 202 q202) r [v0_]]) := by
 obtain rfl := C_len gp0
 have HS := Hp.start w
 have H := Aside0.mk h
 clear h
 unfold laws_toPlanS.f at H
 go_enter Tryz.func76, Tryz.ntmps76
 by_cases c1 : 0 ≤ (a0.length : Int)
 case neg => exact zno c1 H
 replace H := zpos c1 H
 replace c1 := eq_true c1
 by_cases c2 : ((a0.length : Int)).toNat ≤ 3518437208883
 case neg => exact zno c2 H
 replace H := zpos c2 H
 replace c2 := eq_true c2
 go_wp2_with (first | ((with_reducible refine gate_dst (N := 7) rfl ?_); refine ev_make rfl q202 z202 HS rfl (a0.length : Int) rfl rfl Tryz.underlying43 info202 rfl (by decide) (by decide) q202_zero (of_eq_true c1) (by have := of_eq_true c2; omega) ?_; clear HS; (try clear F); intro v3 w3 HS; obtain ⟨B3, d3, rfl, m3⟩ := HS.formn a0.length 0 rfl (by first | rfl | simp); (try simp only [hpn, hpm] at HS)))
 go_loopg [4] k (fun kq v_4 w' => ∃ (l22 : List S202) (x24 : Int), v_4 = .int .i64 x24 ∧ Aside0 (laws_toPlanS.l0 kq l22 x24 a0 = some r) ∧ Aside0 (kq ≤ k) ∧ Hp noFP w w' [.own (Zd.slice 202 q202) l22 [.slice B3 a0.length d3]])
 case atStart => exact ⟨_, _, rfl, H, ⟨Nat.le_refl _⟩, HS⟩
 case round =>
  clear HS H; (try clear F)
  obtain ⟨l22, x24, rfl, H, HKk21, HS⟩ := hrel
  cases gk with
  | zero => exact absurd H.out (by simp [laws_toPlanS.l0])
  | succ k21 =>
   simp only [laws_toPlanS.l0] at H
   by_cases c26 : x24 < (a0.length : Int)
   case neg =>
    replace H := zneg c26 H
    replace c26 := eq_false c26
    obtain rfl := zsome H
    go_wp2
    exact bodyPost_ret (results_single rfl (.tmp .nil)) rfl ⟨_, rfl, HS.pick [0] (by decide) (by rfl)⟩
   replace H := zpos c26 H
   replace c26 := eq_true c26
   by_cases c27 : 0 ≤ x24
   case neg => exact zno c27 H
   replace H := zpos c27 H
   replace c27 := eq_true c27
   by_cases c28 : x24 < (a0.length : Int)
   case neg => exact zno c28 H
   replace H := zpos c28 H
   replace c28 := eq_true c28
   obtain ⟨ad29, B29_1, d29_1, B29_3, d29_3, rfl, e29_0, e29_1, e29_2, e29_3, e29_4, e29_5, e29_6, m29_1, y29_1, m29_3, y29_3⟩ := at_T196 gp0 x24 (of_eq_true c27) (of_eq_true c28)
   have e29_0_29 := (HS.keepc e29_0)
   have e29_1_29 := (HS.keepc e29_1)
   have e29_2_29 := (HS.keepc e29_2)
   have e29_3_29 := (HS.keepc e29_3)
   have e29_4_29 := (HS.keepc e29_4)
   have e29_5_29 := (HS.keepc e29_5)
   have e29_6_29 := (HS.keepc e29_6)
   replace H := zbind H; obtain ⟨t30, ht30, H⟩ := H
   go_wp2_with (first | ((with_reducible refine gate_dst (N := 20) rfl ?_); refine ev_call rfl Tryz.func154 (by kernel_rfl) rfl #[.agg #[.int .i64 ((rd_T196 a0 x24).f0), .slice B29_1 (rd_T196 a0 x24).f1.length d29_1, .int .i64 ((rd_T196 a0 x24).f2.f0), .slice B29_3 (rd_T196 a0 x24).f2.f1.length d29_3, .bool ((rd_T196 a0 x24).f2.f2), .bool ((rd_T196 a0 x24).f2.f3), .int .i64 ((rd_T196 a0 x24).f2.f4)]] rfl (by simp only [mpn]; rfl) ?_; refine (laws_toPlan.calls ht30.out (HS.ro y29_1) m29_1 (HS.ro y29_3) m29_3).mono ?_; rintro _ wt30 ⟨v31, v32, rfl, HQ⟩; refine ⟨_, rfl, ?_⟩; replace HS := HS.call HQ; clear HQ; (try clear F); obtain ⟨B31, d31, rfl, m31⟩ := HS.form 1 rfl; obtain ⟨B32, d32, rfl, m32⟩ := HS.form 2 rfl; (try simp only [hpn, hpm] at HS); obtain ⟨ad34, B34_1, d34_1, B34_3, d34_3, rfl, e34_0, e34_1, e34_2, e34_3, e34_4, e34_5, e34_6, m34_1, y34_1, m34_3, y34_3⟩ := at_T202 (HS.rd 0 rfl) x24 (of_eq_true c27) (of_eq_true c28)) | ((with_reducible refine gate_store (p := 21) rfl ?_); refine ev_set rfl q202 0 [1, 2] x24 t30 HS (seg := [.int .i64 t30.f0, .slice B31 t30.f1.length d31, .int .i64 t30.f2.f0, .slice B32 t30.f2.f1.length d32, .bool t30.f2.f2, .bool t30.f2.f3, .int .i64 t30.f2.f4]) rfl (by decide) rfl rfl rfl (by first | rfl | exact (Nat.mul_one _).symm) rfl rfl (by kernel_rfl) (by simp [Value.oneCell']) ⟨of_eq_true c27, of_eq_true c28⟩ rfl (fun S hd hh => q202_pack (x := t30) hd (hh 1 (.own (Zd.slice 3 (Zd.int .i64)) t30.f1 [.slice B31 t30.f1.length d31]) rfl) (hh 2 (.own (Zd.slice 3 (Zd.int .i64)) t30.f2.f1 [.slice B32 t30.f2.f1.length d32]) rfl) (by decide)) ?_; clear HS; (try clear F); intro w35 HS; (try simp only [hpn, hpm] at HS)))
   go_roundg k21
   case measure => have := HKk21.out; omega
   case rel => exact ⟨_, _, rfl, H, ⟨by have := HKk21.out; omega⟩, HS.pick [0] (by decide) (by rfl)⟩
end Go.Proofs.YtacocpknielofaaGreatDoor.F
