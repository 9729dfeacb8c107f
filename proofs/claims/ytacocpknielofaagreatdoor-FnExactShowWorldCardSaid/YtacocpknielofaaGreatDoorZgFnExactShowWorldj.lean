/- Functions of the program and of the law, and that their calls do what is written here. -/
import Derived.Test.YtacocpknielofaaGreatDoorZgFnExactShowWorldb
import Derived.Test.YtacocpknielofaaGreatDoorZgFnExactShowWorldc
import Derived.Test.YtacocpknielofaaGreatDoorZgFnExactShowWorldf
import Derived.Test.YtacocpknielofaaGreatDoorZgFnExactShowWorldg
import Derived.Test.YtacocpknielofaaGreatDoorZgFnExactShowWorldh
import Derived.Test.YtacocpknielofaaGreatDoorZgFnExactShowWorldi
namespace Go.Proofs.YtacocpknielofaaGreatDoor.F
open Go.RowKit Go.Proofs.YtacocpknielofaaGreatDoorW.PrintWords Go.Proofs.YtacocpknielofaaGreatDoorW.PrintLast Go.Proofs.YtacocpknielofaaGreatDoorW.PrintMore Go.Proofs.YtacocpknielofaaGreatDoor.Z
attribute [local go_sem] max2_int min2_int max_two min_two max_three min_three max_four min_four
set_option linter.unusedVariables false
set_option linter.unusedSimpArgs false
set_option maxRecDepth 100000
/-! ### laws_eqClient: function 99 -/
def laws_eqClient.f (k : Nat) (a0 : S65) (a1 : S65) : Option (Bool) := (if a0.f0.toList = a1.f0.toList then (if a0.f1 = a1.f1 then ((laws_eqWaitS.f k a0.f2 a1.f2).bind fun t7 => (if t7 = true then ((laws_eqGotS.f k a0.f3 a1.f3).bind fun t10 => (if t10 = true then ((laws_eqIntS.f k a0.f4 a1.f4).bind fun t13 => (if t13 = true then (some true) else (some false))) else (some false))) else (some false))) else (some false)) else (some false))
set_option maxHeartbeats 16000000 in
theorem laws_eqClient.calls {k : Nat} {a0 : S65} {a1 : S65} {Ap0 : Option Addr} {np0 cp0 : Nat} {Ap1 : Option Addr} {np1 cp1 : Nat} {Ap2 : Option Addr} {np2 cp2 : Nat} {Ap3 : Option Addr} {np3 cp3 : Nat} {Ap4 : Option Addr} {np4 cp4 : Nat} {Ap5 : Option Addr} {np5 cp5 : Nat} {r : Bool} {w : World} (h : laws_eqClient.f k a0 a1 = some r) (gp0 : k274.C w Ap0 np0 a0.f2) (lp0 : np0 ≤ cp0) (gp1 : k223.C w Ap1 np1 a0.f3) (lp1 : np1 ≤ cp1) (gp2 : (Kd.int .i64).C w Ap2 np2 a0.f4) (lp2 : np2 ≤ cp2) (gp3 : k274.C w Ap3 np3 a1.f2) (lp3 : np3 ≤ cp3) (gp4 : k223.C w Ap4 np4 a1.f3) (lp4 : np4 ≤ cp4) (gp5 : (Kd.int .i64).C w Ap5 np5 a1.f4) (lp5 : np5 ≤ cp5) :
    Calls Tryz.prog 99 #[.agg #[.string a0.f0, .int .i64 a0.f1, .slice Ap0 np0 cp0, .slice Ap1 np1 cp1, .slice Ap2 np2 cp2], .agg #[.string a1.f0, .int .i64 a1.f1, .slice Ap3 np3 cp3, .slice Ap4 np4 cp4, .slice Ap5 np5 cp5]] w (fun e w' => e = .returned (.bool r) ∧ Hp noFP w w' []) := by
 obtain rfl := C_len gp0
 obtain rfl := C_len gp1
 obtain rfl := C_len gp2
 obtain rfl := C_len gp3
 obtain rfl := C_len gp4
 obtain rfl := C_len gp5
 have HS := Hp.start w
 have H := Aside0.mk h
 clear h
 unfold laws_eqClient.f at H
 go_enter Tryz.func99, Tryz.ntmps99
 go_upto_if 9 with (first | ((with_reducible refine gate_dst (N := 2) rfl ?_); refine ev_box rfl HS (by first | (go_simp; done) | (go_simp; rfl)) rfl ?_; clear HS; (try clear F); intro g2 w2 HS; (try simp only [hpn, hpm] at HS); have F := HS.boxes; simp only [bxn] at F) | ((with_reducible refine gate_dst (N := 3) rfl ?_); refine ev_box rfl HS (by first | (go_simp; done) | (go_simp; rfl)) rfl ?_; clear HS; (try clear F); intro g3 w3 HS; (try simp only [hpn, hpm] at HS); have F := HS.boxes; simp only [bxn] at F))
 by_cases c5 : a0.f0.toList = a1.f0.toList
 case neg =>
  replace H := zneg c5 H
  have c5a := beq_eq_false_iff_ne.mpr c5
  have c5b := bne_iff_ne.mpr c5
  clear c5
  (try simp only [c5a, c5b, dcn])
  obtain rfl := zsome H
  go_wp2
  go_ret
  exact ⟨rfl, HS.pick [] (by decide) (by rfl)⟩
 replace H := zpos c5 H
 have c5a := beq_iff_eq.mpr c5
 have c5b := bne_eq_false_iff_eq.mpr c5
 clear c5
 (try simp only [c5a, c5b, dcn])
 by_cases c6 : a0.f1 = a1.f1
 case neg =>
  replace H := zneg c6 H
  have c6a := beq_eq_false_iff_ne.mpr c6
  have c6b := bne_iff_ne.mpr c6
  clear c6
  obtain rfl := zsome H
  go_wp2
  go_ret
  exact ⟨rfl, HS.pick [] (by decide) (by rfl)⟩
 replace H := zpos c6 H
 have c6a := beq_iff_eq.mpr c6
 have c6b := bne_eq_false_iff_eq.mpr c6
 clear c6
 replace H := zbind H; obtain ⟨t7, ht7, H⟩ := H
 go_upto_if 20 with (first | ((with_reducible refine gate_dst (N := 19) rfl ?_); refine ev_call rfl Tryz.func171 (by kernel_rfl) rfl #[.slice Ap0 a0.f2.length cp0, .slice Ap3 a1.f2.length cp3] rfl (by simp only [mpn]; rfl) ?_; refine (laws_eqWaitS.calls ht7.out (HS.ro gp0) lp0 (HS.ro gp3) lp3).mono ?_; rintro _ wt7 ⟨rfl, HQ⟩; refine ⟨_, rfl, ?_⟩; replace HS := HS.call HQ; clear HQ; (try clear F); (try simp only [hpn, hpm] at HS); have F := HS.boxes; simp only [bxn] at F))
 by_cases c9 : t7 = true
 case neg =>
  replace H := zneg c9 H
  replace c9 := eq_false_of_ne_true c9
  subst c9
  (try simp only [dcn, if_true, Bool.false_eq_true, if_false])
  obtain rfl := zsome H
  go_wp2
  go_ret
  exact ⟨rfl, HS.pick [] (by decide) (by rfl)⟩
 replace H := zpos c9 H
 subst c9
 (try simp only [dcn, if_true, Bool.false_eq_true, if_false])
 replace H := zbind H; obtain ⟨t10, ht10, H⟩ := H
 go_upto_if 26 with (first | ((with_reducible refine gate_dst (N := 25) rfl ?_); refine ev_call rfl Tryz.func172 (by kernel_rfl) rfl #[.slice Ap1 a0.f3.length cp1, .slice Ap4 a1.f3.length cp4] rfl (by simp only [mpn]; rfl) ?_; refine (laws_eqGotS.calls ht10.out (HS.ro gp1) lp1 (HS.ro gp4) lp4).mono ?_; rintro _ wt10 ⟨rfl, HQ⟩; refine ⟨_, rfl, ?_⟩; replace HS := HS.call HQ; clear HQ; (try clear F); (try simp only [hpn, hpm] at HS); have F := HS.boxes; simp only [bxn] at F))
 by_cases c12 : t10 = true
 case neg =>
  replace H := zneg c12 H
  replace c12 := eq_false_of_ne_true c12
  subst c12
  (try simp only [dcn, if_true, Bool.false_eq_true, if_false])
  obtain rfl := zsome H
  go_wp2
  go_ret
  exact ⟨rfl, HS.pick [] (by decide) (by rfl)⟩
 replace H := zpos c12 H
 subst c12
 (try simp only [dcn, if_true, Bool.false_eq_true, if_false])
 replace H := zbind H; obtain ⟨t13, ht13, H⟩ := H
 go_upto_if 32 with (first | ((with_reducible refine gate_dst (N := 31) rfl ?_); refine ev_call rfl Tryz.func101 (by kernel_rfl) rfl #[.slice Ap2 a0.f4.length cp2, .slice Ap5 a1.f4.length cp5] rfl (by simp only [mpn]; rfl) ?_; refine (laws_eqIntS.calls ht13.out (HS.ro gp2) lp2 (HS.ro gp5) lp5).mono ?_; rintro _ wt13 ⟨rfl, HQ⟩; refine ⟨_, rfl, ?_⟩; replace HS := HS.call HQ; clear HQ; (try clear F); (try simp only [hpn, hpm] at HS); have F := HS.boxes; simp only [bxn] at F))
 by_cases c15 : t13 = true
 case pos =>
  replace H := zpos c15 H
  subst c15
  (try simp only [dcn, if_true, Bool.false_eq_true, if_false])
  obtain rfl := zsome H
  go_wp2
  go_ret
  exact ⟨rfl, HS.pick [] (by decide) (by rfl)⟩
 replace H := zneg c15 H
 replace c15 := eq_false_of_ne_true c15
 subst c15
 (try simp only [dcn, if_true, Bool.false_eq_true, if_false])
 obtain rfl := zsome H
 go_wp2
 go_ret
 exact ⟨rfl, HS.pick [] (by decide) (by rfl)⟩
/-! ### laws_eqWorld: function 25 -/
def laws_eqWorld.f (k : Nat) (a0 : S69) (a1 : S69) : Option (Bool) := ((laws_eqServer.f k a0.f0 a1.f0).bind fun t5 => (if t5 = true then ((laws_eqClient.f k a0.f1 a1.f1).bind fun t8 => (if t8 = true then ((laws_eqCertS.f k a0.f2 a1.f2).bind fun t11 => (if t11 = true then ((laws_eqLetterS.f k a0.f3 a1.f3).bind fun t14 => (if t14 = true then ((laws_eqIntS.f k a0.f4 a1.f4).bind fun t17 => (if t17 = true then ((laws_eqPoseS.f k a0.f5 a1.f5).bind fun t20 => (if t20 = true then ((laws_eqStringS.f k a0.f6 a1.f6).bind fun t23 => (if t23 = true then ((laws_eqStringS.f k a0.f7 a1.f7).bind fun t26 => (if t26 = true then (some true) else (some false))) else (some false))) else (some false))) else (some false))) else (some false))) else (some false))) else (some false))) else (some false)))
set_option maxHeartbeats 16000000 in
theorem laws_eqWorld.calls {k : Nat} {a0 : S69} {a1 : S69} {Ap0 : Option Addr} {np0 cp0 : Nat} {Ap1 : Option Addr} {np1 cp1 : Nat} {Ap2 : Option Addr} {np2 cp2 : Nat} {Ap3 : Option Addr} {np3 cp3 : Nat} {Ap4 : Option Addr} {np4 cp4 : Nat} {Ap5 : Option Addr} {np5 cp5 : Nat} {Ap6 : Option Addr} {np6 cp6 : Nat} {Ap7 : Option Addr} {np7 cp7 : Nat} {Ap8 : Option Addr} {np8 cp8 : Nat} {Ap9 : Option Addr} {np9 cp9 : Nat} {Ap10 : Option Addr} {np10 cp10 : Nat} {Ap11 : Option Addr} {np11 cp11 : Nat} {Ap12 : Option Addr} {np12 cp12 : Nat} {Ap13 : Option Addr} {np13 cp13 : Nat} {Ap14 : Option Addr} {np14 cp14 : Nat} {Ap15 : Option Addr} {np15 cp15 : Nat} {Ap16 : Option Addr} {np16 cp16 : Nat} {Ap17 : Option Addr} {np17 cp17 : Nat} {Ap18 : Option Addr} {np18 cp18 : Nat} {Ap19 : Option Addr} {np19 cp19 : Nat} {Ap20 : Option Addr} {np20 cp20 : Nat} {Ap21 : Option Addr} {np21 cp21 : Nat} {Ap22 : Option Addr} {np22 cp22 : Nat} {Ap23 : Option Addr} {np23 cp23 : Nat} {Ap24 : Option Addr} {np24 cp24 : Nat} {Ap25 : Option Addr} {np25 cp25 : Nat} {Ap26 : Option Addr} {np26 cp26 : Nat} {Ap27 : Option Addr} {np27 cp27 : Nat} {r : Bool} {w : World} (h : laws_eqWorld.f k a0 a1 = some r) (gp0 : k91.C w Ap0 np0 a0.f0.f0.f0) (lp0 : np0 ≤ cp0) (gp1 : k81.C w Ap1 np1 a0.f0.f0.f1) (lp1 : np1 ≤ cp1) (gp2 : k115.C w Ap2 np2 a0.f0.f0.f2) (lp2 : np2 ≤ cp2) (gp3 : k202.C w Ap3 np3 a0.f0.f1) (lp3 : np3 ≤ cp3) (gp4 : k205.C w Ap4 np4 a0.f0.f5) (lp4 : np4 ≤ cp4) (gp5 : k274.C w Ap5 np5 a0.f1.f2) (lp5 : np5 ≤ cp5) (gp6 : k223.C w Ap6 np6 a0.f1.f3) (lp6 : np6 ≤ cp6) (gp7 : (Kd.int .i64).C w Ap7 np7 a0.f1.f4) (lp7 : np7 ≤ cp7) (gp8 : k91.C w Ap8 np8 a0.f2) (lp8 : np8 ≤ cp8) (gp9 : k228.C w Ap9 np9 a0.f3) (lp9 : np9 ≤ cp9) (gp10 : (Kd.int .i64).C w Ap10 np10 a0.f4) (lp10 : np10 ≤ cp10) (gp11 : k230.C w Ap11 np11 a0.f5) (lp11 : np11 ≤ cp11) (gp12 : Kd.string.C w Ap12 np12 a0.f6) (lp12 : np12 ≤ cp12) (gp13 : Kd.string.C w Ap13 np13 a0.f7) (lp13 : np13 ≤ cp13) (gp14 : k91.C w Ap14 np14 a1.f0.f0.f0) (lp14 : np14 ≤ cp14) (gp15 : k81.C w Ap15 np15 a1.f0.f0.f1) (lp15 : np15 ≤ cp15) (gp16 : k115.C w Ap16 np16 a1.f0.f0.f2) (lp16 : np16 ≤ cp16) (gp17 : k202.C w Ap17 np17 a1.f0.f1) (lp17 : np17 ≤ cp17) (gp18 : k205.C w Ap18 np18 a1.f0.f5) (lp18 : np18 ≤ cp18) (gp19 : k274.C w Ap19 np19 a1.f1.f2) (lp19 : np19 ≤ cp19) (gp20 : k223.C w Ap20 np20 a1.f1.f3) (lp20 : np20 ≤ cp20) (gp21 : (Kd.int .i64).C w Ap21 np21 a1.f1.f4) (lp21 : np21 ≤ cp21) (gp22 : k91.C w Ap22 np22 a1.f2) (lp22 : np22 ≤ cp22) (gp23 : k228.C w Ap23 np23 a1.f3) (lp23 : np23 ≤ cp23) (gp24 : (Kd.int .i64).C w Ap24 np24 a1.f4) (lp24 : np24 ≤ cp24) (gp25 : k230.C w Ap25 np25 a1.f5) (lp25 : np25 ≤ cp25) (gp26 : Kd.string.C w Ap26 np26 a1.f6) (lp26 : np26 ≤ cp26) (gp27 : Kd.string.C w Ap27 np27 a1.f7) (lp27 : np27 ≤ cp27) :
    Calls Tryz.prog 25 #[.agg #[.slice Ap0 np0 cp0, .slice Ap1 np1 cp1, .slice Ap2 np2 cp2, .slice Ap3 np3 cp3, .int .i64 a0.f0.f2, .int .i64 a0.f0.f3, .int .i64 a0.f0.f4, .slice Ap4 np4 cp4, .string a0.f1.f0, .int .i64 a0.f1.f1, .slice Ap5 np5 cp5, .slice Ap6 np6 cp6, .slice Ap7 np7 cp7, .slice Ap8 np8 cp8, .slice Ap9 np9 cp9, .slice Ap10 np10 cp10, .slice Ap11 np11 cp11, .slice Ap12 np12 cp12, .slice Ap13 np13 cp13], .agg #[.slice Ap14 np14 cp14, .slice Ap15 np15 cp15, .slice Ap16 np16 cp16, .slice Ap17 np17 cp17, .int .i64 a1.f0.f2, .int .i64 a1.f0.f3, .int .i64 a1.f0.f4, .slice Ap18 np18 cp18, .string a1.f1.f0, .int .i64 a1.f1.f1, .slice Ap19 np19 cp19, .slice Ap20 np20 cp20, .slice Ap21 np21 cp21, .slice Ap22 np22 cp22, .slice Ap23 np23 cp23, .slice Ap24 np24 cp24, .slice Ap25 np25 cp25, .slice Ap26 np26 cp26, .slice Ap27 np27 cp27]] w (fun e w' => e = .returned (.bool r) ∧ Hp noFP w w' []) := by
 obtain rfl := C_len gp0
 obtain rfl := C_len gp1
 obtain rfl := C_len gp2
 obtain rfl := C_len gp3
 obtain rfl := C_len gp4
 obtain rfl := C_len gp5
 obtain rfl := C_len gp6
 obtain rfl := C_len gp7
 obtain rfl := C_len gp8
 obtain rfl := C_len gp9
 obtain rfl := C_len gp10
 obtain rfl := C_len gp11
 obtain rfl := C_len gp12
 obtain rfl := C_len gp13
 obtain rfl := C_len gp14
 obtain rfl := C_len gp15
 obtain rfl := C_len gp16
 obtain rfl := C_len gp17
 obtain rfl := C_len gp18
 obtain rfl := C_len gp19
 obtain rfl := C_len gp20
 obtain rfl := C_len gp21
 obtain rfl := C_len gp22
 obtain rfl := C_len gp23
 obtain rfl := C_len gp24
 obtain rfl := C_len gp25
 obtain rfl := C_len gp26
 obtain rfl := C_len gp27
 have HS := Hp.start w
 have H := Aside0.mk h
 clear h
 unfold laws_eqWorld.f at H
 go_enter Tryz.func25, Tryz.ntmps25
 replace H := zbind H; obtain ⟨t5, ht5, H⟩ := H
 go_upto_if 10 with (first | ((with_reducible refine gate_dst (N := 2) rfl ?_); refine ev_box rfl HS (by first | (go_simp; done) | (go_simp; rfl)) rfl ?_; clear HS; (try clear F); intro g2 w2 HS; (try simp only [hpn, hpm] at HS); have F := HS.boxes; simp only [bxn] at F) | ((with_reducible refine gate_dst (N := 3) rfl ?_); refine ev_box rfl HS (by first | (go_simp; done) | (go_simp; rfl)) rfl ?_; clear HS; (try clear F); intro g3 w3 HS; (try simp only [hpn, hpm] at HS); have F := HS.boxes; simp only [bxn] at F) | ((with_reducible refine gate_dst (N := 9) rfl ?_); refine ev_call rfl Tryz.func20 (by kernel_rfl) rfl #[.agg #[.slice Ap0 a0.f0.f0.f0.length cp0, .slice Ap1 a0.f0.f0.f1.length cp1, .slice Ap2 a0.f0.f0.f2.length cp2, .slice Ap3 a0.f0.f1.length cp3, .int .i64 a0.f0.f2, .int .i64 a0.f0.f3, .int .i64 a0.f0.f4, .slice Ap4 a0.f0.f5.length cp4], .agg #[.slice Ap14 a1.f0.f0.f0.length cp14, .slice Ap15 a1.f0.f0.f1.length cp15, .slice Ap16 a1.f0.f0.f2.length cp16, .slice Ap17 a1.f0.f1.length cp17, .int .i64 a1.f0.f2, .int .i64 a1.f0.f3, .int .i64 a1.f0.f4, .slice Ap18 a1.f0.f5.length cp18]] rfl (by simp only [mpn]; rfl) ?_; refine (laws_eqServer.calls ht5.out (HS.ro gp0) lp0 (HS.ro gp1) lp1 (HS.ro gp2) lp2 (HS.ro gp3) lp3 (HS.ro gp4) lp4 (HS.ro gp14) lp14 (HS.ro gp15) lp15 (HS.ro gp16) lp16 (HS.ro gp17) lp17 (HS.ro gp18) lp18).mono ?_; rintro _ wt5 ⟨rfl, HQ⟩; refine ⟨_, rfl, ?_⟩; replace HS := HS.call HQ; clear HQ; (try clear F); (try simp only [hpn, hpm] at HS); have F := HS.boxes; simp only [bxn] at F))
 by_cases c7 : t5 = true
 case neg =>
  replace H := zneg c7 H
  replace c7 := eq_false_of_ne_true c7
  subst c7
  (try simp only [dcn, if_true, Bool.false_eq_true, if_false])
  obtain rfl := zsome H
  go_wp2
  go_ret
  exact ⟨rfl, HS.pick [] (by decide) (by rfl)⟩
 replace H := zpos c7 H
 subst c7
 (try simp only [dcn, if_true, Bool.false_eq_true, if_false])
 replace H := zbind H; obtain ⟨t8, ht8, H⟩ := H
 go_upto_if 16 with (first | ((with_reducible refine gate_dst (N := 15) rfl ?_); refine ev_call rfl Tryz.func99 (by kernel_rfl) rfl #[.agg #[.string a0.f1.f0, .int .i64 a0.f1.f1, .slice Ap5 a0.f1.f2.length cp5, .slice Ap6 a0.f1.f3.length cp6, .slice Ap7 a0.f1.f4.length cp7], .agg #[.string a1.f1.f0, .int .i64 a1.f1.f1, .slice Ap19 a1.f1.f2.length cp19, .slice Ap20 a1.f1.f3.length cp20, .slice Ap21 a1.f1.f4.length cp21]] rfl (by simp only [mpn]; rfl) ?_; refine (laws_eqClient.calls ht8.out (HS.ro gp5) lp5 (HS.ro gp6) lp6 (HS.ro gp7) lp7 (HS.ro gp19) lp19 (HS.ro gp20) lp20 (HS.ro gp21) lp21).mono ?_; rintro _ wt8 ⟨rfl, HQ⟩; refine ⟨_, rfl, ?_⟩; replace HS := HS.call HQ; clear HQ; (try clear F); (try simp only [hpn, hpm] at HS); have F := HS.boxes; simp only [bxn] at F))
 by_cases c10 : t8 = true
 case neg =>
  replace H := zneg c10 H
  replace c10 := eq_false_of_ne_true c10
  subst c10
  (try simp only [dcn, if_true, Bool.false_eq_true, if_false])
  obtain rfl := zsome H
  go_wp2
  go_ret
  exact ⟨rfl, HS.pick [] (by decide) (by rfl)⟩
 replace H := zpos c10 H
 subst c10
 (try simp only [dcn, if_true, Bool.false_eq_true, if_false])
 replace H := zbind H; obtain ⟨t11, ht11, H⟩ := H
 go_upto_if 22 with (first | ((with_reducible refine gate_dst (N := 21) rfl ?_); refine ev_call rfl Tryz.func68 (by kernel_rfl) rfl #[.slice Ap8 a0.f2.length cp8, .slice Ap22 a1.f2.length cp22] rfl (by simp only [mpn]; rfl) ?_; refine (laws_eqCertS.calls ht11.out (HS.ro gp8) lp8 (HS.ro gp22) lp22).mono ?_; rintro _ wt11 ⟨rfl, HQ⟩; refine ⟨_, rfl, ?_⟩; replace HS := HS.call HQ; clear HQ; (try clear F); (try simp only [hpn, hpm] at HS); have F := HS.boxes; simp only [bxn] at F))
 by_cases c13 : t11 = true
 case neg =>
  replace H := zneg c13 H
  replace c13 := eq_false_of_ne_true c13
  subst c13
  (try simp only [dcn, if_true, Bool.false_eq_true, if_false])
  obtain rfl := zsome H
  go_wp2
  go_ret
  exact ⟨rfl, HS.pick [] (by decide) (by rfl)⟩
 replace H := zpos c13 H
 subst c13
 (try simp only [dcn, if_true, Bool.false_eq_true, if_false])
 replace H := zbind H; obtain ⟨t14, ht14, H⟩ := H
 go_upto_if 28 with (first | ((with_reducible refine gate_dst (N := 27) rfl ?_); refine ev_call rfl Tryz.func100 (by kernel_rfl) rfl #[.slice Ap9 a0.f3.length cp9, .slice Ap23 a1.f3.length cp23] rfl (by simp only [mpn]; rfl) ?_; refine (laws_eqLetterS.calls ht14.out (HS.ro gp9) lp9 (HS.ro gp23) lp23).mono ?_; rintro _ wt14 ⟨rfl, HQ⟩; refine ⟨_, rfl, ?_⟩; replace HS := HS.call HQ; clear HQ; (try clear F); (try simp only [hpn, hpm] at HS); have F := HS.boxes; simp only [bxn] at F))
 by_cases c16 : t14 = true
 case neg =>
  replace H := zneg c16 H
  replace c16 := eq_false_of_ne_true c16
  subst c16
  (try simp only [dcn, if_true, Bool.false_eq_true, if_false])
  obtain rfl := zsome H
  go_wp2
  go_ret
  exact ⟨rfl, HS.pick [] (by decide) (by rfl)⟩
 replace H := zpos c16 H
 subst c16
 (try simp only [dcn, if_true, Bool.false_eq_true, if_false])
 replace H := zbind H; obtain ⟨t17, ht17, H⟩ := H
 go_upto_if 34 with (first | ((with_reducible refine gate_dst (N := 33) rfl ?_); refine ev_call rfl Tryz.func101 (by kernel_rfl) rfl #[.slice Ap10 a0.f4.length cp10, .slice Ap24 a1.f4.length cp24] rfl (by simp only [mpn]; rfl) ?_; refine (laws_eqIntS.calls ht17.out (HS.ro gp10) lp10 (HS.ro gp24) lp24).mono ?_; rintro _ wt17 ⟨rfl, HQ⟩; refine ⟨_, rfl, ?_⟩; replace HS := HS.call HQ; clear HQ; (try clear F); (try simp only [hpn, hpm] at HS); have F := HS.boxes; simp only [bxn] at F))
 by_cases c19 : t17 = true
 case neg =>
  replace H := zneg c19 H
  replace c19 := eq_false_of_ne_true c19
  subst c19
  (try simp only [dcn, if_true, Bool.false_eq_true, if_false])
  obtain rfl := zsome H
  go_wp2
  go_ret
  exact ⟨rfl, HS.pick [] (by decide) (by rfl)⟩
 replace H := zpos c19 H
 subst c19
 (try simp only [dcn, if_true, Bool.false_eq_true, if_false])
 replace H := zbind H; obtain ⟨t20, ht20, H⟩ := H
 go_upto_if 40 with (first | ((with_reducible refine gate_dst (N := 39) rfl ?_); refine ev_call rfl Tryz.func102 (by kernel_rfl) rfl #[.slice Ap11 a0.f5.length cp11, .slice Ap25 a1.f5.length cp25] rfl (by simp only [mpn]; rfl) ?_; refine (laws_eqPoseS.calls ht20.out (HS.ro gp11) lp11 (HS.ro gp25) lp25).mono ?_; rintro _ wt20 ⟨rfl, HQ⟩; refine ⟨_, rfl, ?_⟩; replace HS := HS.call HQ; clear HQ; (try clear F); (try simp only [hpn, hpm] at HS); have F := HS.boxes; simp only [bxn] at F))
 by_cases c22 : t20 = true
 case neg =>
  replace H := zneg c22 H
  replace c22 := eq_false_of_ne_true c22
  subst c22
  (try simp only [dcn, if_true, Bool.false_eq_true, if_false])
  obtain rfl := zsome H
  go_wp2
  go_ret
  exact ⟨rfl, HS.pick [] (by decide) (by rfl)⟩
 replace H := zpos c22 H
 subst c22
 (try simp only [dcn, if_true, Bool.false_eq_true, if_false])
 replace H := zbind H; obtain ⟨t23, ht23, H⟩ := H
 go_upto_if 46 with (first | ((with_reducible refine gate_dst (N := 45) rfl ?_); refine ev_call rfl Tryz.func103 (by kernel_rfl) rfl #[.slice Ap12 a0.f6.length cp12, .slice Ap26 a1.f6.length cp26] rfl (by simp only [mpn]; rfl) ?_; refine (laws_eqStringS.calls ht23.out (HS.ro gp12) lp12 (HS.ro gp26) lp26).mono ?_; rintro _ wt23 ⟨rfl, HQ⟩; refine ⟨_, rfl, ?_⟩; replace HS := HS.call HQ; clear HQ; (try clear F); (try simp only [hpn, hpm] at HS); have F := HS.boxes; simp only [bxn] at F))
 by_cases c25 : t23 = true
 case neg =>
  replace H := zneg c25 H
  replace c25 := eq_false_of_ne_true c25
  subst c25
  (try simp only [dcn, if_true, Bool.false_eq_true, if_false])
  obtain rfl := zsome H
  go_wp2
  go_ret
  exact ⟨rfl, HS.pick [] (by decide) (by rfl)⟩
 replace H := zpos c25 H
 subst c25
 (try simp only [dcn, if_true, Bool.false_eq_true, if_false])
 replace H := zbind H; obtain ⟨t26, ht26, H⟩ := H
 go_upto_if 52 with (first | ((with_reducible refine gate_dst (N := 51) rfl ?_); refine ev_call rfl Tryz.func103 (by kernel_rfl) rfl #[.slice Ap13 a0.f7.length cp13, .slice Ap27 a1.f7.length cp27] rfl (by simp only [mpn]; rfl) ?_; refine (laws_eqStringS.calls ht26.out (HS.ro gp13) lp13 (HS.ro gp27) lp27).mono ?_; rintro _ wt26 ⟨rfl, HQ⟩; refine ⟨_, rfl, ?_⟩; replace HS := HS.call HQ; clear HQ; (try clear F); (try simp only [hpn, hpm] at HS); have F := HS.boxes; simp only [bxn] at F))
 by_cases c28 : t26 = true
 case pos =>
  replace H := zpos c28 H
  subst c28
  (try simp only [dcn, if_true, Bool.false_eq_true, if_false])
  obtain rfl := zsome H
  go_wp2
  go_ret
  exact ⟨rfl, HS.pick [] (by decide) (by rfl)⟩
 replace H := zneg c28 H
 replace c28 := eq_false_of_ne_true c28
 subst c28
 (try simp only [dcn, if_true, Bool.false_eq_true, if_false])
 obtain rfl := zsome H
 go_wp2
 go_ret
 exact ⟨rfl, HS.pick [] (by decide) (by rfl)⟩
/-! ### laws_FnExactShowWorld: function 5 -/
def laws_FnExactShowWorld.f (k : Nat) (a0 : S59) : Option (Bool) := ((laws_szWorld.f k a0 1048576).bind fun t3 => (if t3 < 0 then (some true) else ((laws_toWorld.f k a0).bind fun t6 => ((spec_ShowWorld.f k t6).bind fun t22 => ((laws_toWorld.f k a0).bind fun t24 => ((impl_ShowWorld.f k t24).bind fun t44 => (if t44.toList = t22.toList then ((laws_toWorld.f k a0).bind fun t102001 => ((laws_eqWorld.f k t24 t102001).bind fun t103001 => (if t103001 = true then (some true) else (some false)))) else (some false))))))))
def laws_FnExactShowWorld.T10 : Bool × List (List Nat × List Nat) := (true, [([], []), ([], []), ([1], [1]), ([0, 2, 2], [0, 2]), ([3], [3])])
theorem laws_FnExactShowWorld.tT10 : rtab .any (opsOf Tryz.f5 10) = laws_FnExactShowWorld.T10 := by kernel_rfl
set_option maxHeartbeats 16000000 in
theorem laws_FnExactShowWorld.calls {k : Nat} {a0 : S59} {Ap0 : Option Addr} {np0 cp0 : Nat} {Ap1 : Option Addr} {np1 cp1 : Nat} {Ap2 : Option Addr} {np2 cp2 : Nat} {Ap3 : Option Addr} {np3 cp3 : Nat} {Ap4 : Option Addr} {np4 cp4 : Nat} {Ap5 : Option Addr} {np5 cp5 : Nat} {Ap6 : Option Addr} {np6 cp6 : Nat} {Ap7 : Option Addr} {np7 cp7 : Nat} {Ap8 : Option Addr} {np8 cp8 : Nat} {Ap9 : Option Addr} {np9 cp9 : Nat} {Ap10 : Option Addr} {np10 cp10 : Nat} {Ap11 : Option Addr} {np11 cp11 : Nat} {Ap12 : Option Addr} {np12 cp12 : Nat} {Ap13 : Option Addr} {np13 cp13 : Nat} {r : Bool} {w : World} (h : laws_FnExactShowWorld.f k a0 = some r) (gp0 : k88.C w Ap0 np0 a0.f0.f0.f0) (lp0 : np0 ≤ cp0) (gp1 : k75.C w Ap1 np1 a0.f0.f0.f1) (lp1 : np1 ≤ cp1) (gp2 : k178.C w Ap2 np2 a0.f0.f0.f2) (lp2 : np2 ≤ cp2) (gp3 : k196.C w Ap3 np3 a0.f0.f1) (lp3 : np3 ≤ cp3) (gp4 : k199.C w Ap4 np4 a0.f0.f5) (lp4 : np4 ≤ cp4) (gp5 : k265.C w Ap5 np5 a0.f1.f2) (lp5 : np5 ≤ cp5) (gp6 : k271.C w Ap6 np6 a0.f1.f3) (lp6 : np6 ≤ cp6) (gp7 : (Kd.int .i64).C w Ap7 np7 a0.f1.f4) (lp7 : np7 ≤ cp7) (gp8 : k88.C w Ap8 np8 a0.f2) (lp8 : np8 ≤ cp8) (gp9 : k214.C w Ap9 np9 a0.f3) (lp9 : np9 ≤ cp9) (gp10 : (Kd.int .i64).C w Ap10 np10 a0.f4) (lp10 : np10 ≤ cp10) (gp11 : k217.C w Ap11 np11 a0.f5) (lp11 : np11 ≤ cp11) (gp12 : Kd.string.C w Ap12 np12 a0.f6) (lp12 : np12 ≤ cp12) (gp13 : Kd.string.C w Ap13 np13 a0.f7) (lp13 : np13 ≤ cp13) (hgT : Go.Lib.TabIs Tryz.prog w "internal/strconv.uint64pow10" .u64 Go.Lib.pow10Tab) :
    Calls Tryz.prog 5 #[.agg #[.slice Ap0 np0 cp0, .slice Ap1 np1 cp1, .slice Ap2 np2 cp2, .slice Ap3 np3 cp3, .int .i64 a0.f0.f2, .int .i64 a0.f0.f3, .int .i64 a0.f0.f4, .slice Ap4 np4 cp4, .string a0.f1.f0, .int .i64 a0.f1.f1, .slice Ap5 np5 cp5, .slice Ap6 np6 cp6, .slice Ap7 np7 cp7, .slice Ap8 np8 cp8, .slice Ap9 np9 cp9, .slice Ap10 np10 cp10, .slice Ap11 np11 cp11, .slice Ap12 np12 cp12, .slice Ap13 np13 cp13]] w (fun e w' => e = .returned (.bool r) ∧ Hp noFP w w' []) := by
 obtain rfl := C_len gp0
 obtain rfl := C_len gp1
 obtain rfl := C_len gp2
 obtain rfl := C_len gp3
 obtain rfl := C_len gp4
 obtain rfl := C_len gp5
 obtain rfl := C_len gp6
 obtain rfl := C_len gp7
 obtain rfl := C_len gp8
 obtain rfl := C_len gp9
 obtain rfl := C_len gp10
 obtain rfl := C_len gp11
 obtain rfl := C_len gp12
 obtain rfl := C_len gp13
 have HS := Hp.start w
 have H := Aside0.mk h
 clear h
 unfold laws_FnExactShowWorld.f at H
 go_enter Tryz.func5, Tryz.ntmps5
 replace H := zbind H; obtain ⟨t3, ht3, H⟩ := H
 go_upto_if 11 with (first | ((with_reducible refine gate_dst (N := 1) rfl ?_); refine ev_box rfl HS (by first | (go_simp; done) | (go_simp; rfl)) rfl ?_; clear HS; (try clear F); intro g1 w1 HS; (try simp only [hpn, hpm] at HS); have F := HS.boxes; simp only [bxn] at F) | ((with_reducible refine gate_dst (N := 9) rfl ?_); refine ev_call rfl Tryz.func21 (by kernel_rfl) rfl #[.agg #[.slice Ap0 a0.f0.f0.f0.length cp0, .slice Ap1 a0.f0.f0.f1.length cp1, .slice Ap2 a0.f0.f0.f2.length cp2, .slice Ap3 a0.f0.f1.length cp3, .int .i64 a0.f0.f2, .int .i64 a0.f0.f3, .int .i64 a0.f0.f4, .slice Ap4 a0.f0.f5.length cp4, .string a0.f1.f0, .int .i64 a0.f1.f1, .slice Ap5 a0.f1.f2.length cp5, .slice Ap6 a0.f1.f3.length cp6, .slice Ap7 a0.f1.f4.length cp7, .slice Ap8 a0.f2.length cp8, .slice Ap9 a0.f3.length cp9, .slice Ap10 a0.f4.length cp10, .slice Ap11 a0.f5.length cp11, .slice Ap12 a0.f6.length cp12, .slice Ap13 a0.f7.length cp13], .int .i64 1048576] rfl (by simp only [mpn]; rfl) ?_; refine (laws_szWorld.calls ht3.out (HS.ro gp0) lp0 (HS.ro gp1) lp1 (HS.ro gp2) lp2 (HS.ro gp3) lp3 (HS.ro gp4) lp4 (HS.ro gp5) lp5 (HS.ro gp6) lp6 (HS.ro gp7) lp7 (HS.ro gp8) lp8 (HS.ro gp9) lp9 (HS.ro gp10) lp10 (HS.ro gp11) lp11 (HS.ro gp12) lp12 (HS.ro gp13) lp13).mono ?_; rintro _ wt3 ⟨rfl, HQ⟩; refine ⟨_, rfl, ?_⟩; replace HS := HS.call HQ; clear HQ; (try clear F); (try simp only [hpn, hpm] at HS); have F := HS.boxes; simp only [bxn] at F))
 by_cases c5 : t3 < 0
 case pos =>
  replace H := zpos c5 H
  replace c5 := eq_true c5
  (try simp only [c5, dcn])
  obtain rfl := zsome H
  go_wp2
  go_ret
  exact ⟨rfl, HS.pick [] (by decide) (by rfl)⟩
 replace H := zneg c5 H
 replace c5 := eq_false c5
 (try simp only [c5, dcn])
 replace H := zbind H; obtain ⟨t6, ht6, H⟩ := H
 replace H := zbind H; obtain ⟨t22, ht22, H⟩ := H
 replace H := zbind H; obtain ⟨t24, ht24, H⟩ := H
 replace H := zbind H; obtain ⟨t44, ht44, H⟩ := H
 go_upto_if 21 with (first | ((with_reducible refine gate_dst (N := 13) rfl ?_); refine ev_call rfl Tryz.func23 (by kernel_rfl) rfl #[.agg #[.slice Ap0 a0.f0.f0.f0.length cp0, .slice Ap1 a0.f0.f0.f1.length cp1, .slice Ap2 a0.f0.f0.f2.length cp2, .slice Ap3 a0.f0.f1.length cp3, .int .i64 a0.f0.f2, .int .i64 a0.f0.f3, .int .i64 a0.f0.f4, .slice Ap4 a0.f0.f5.length cp4, .string a0.f1.f0, .int .i64 a0.f1.f1, .slice Ap5 a0.f1.f2.length cp5, .slice Ap6 a0.f1.f3.length cp6, .slice Ap7 a0.f1.f4.length cp7, .slice Ap8 a0.f2.length cp8, .slice Ap9 a0.f3.length cp9, .slice Ap10 a0.f4.length cp10, .slice Ap11 a0.f5.length cp11, .slice Ap12 a0.f6.length cp12, .slice Ap13 a0.f7.length cp13]] rfl (by simp only [mpn]; rfl) ?_; refine (laws_toWorld.calls ht6.out (HS.ro gp0) lp0 (HS.ro gp1) lp1 (HS.ro gp2) lp2 (HS.ro gp3) lp3 (HS.ro gp4) lp4 (HS.ro gp5) lp5 (HS.ro gp6) lp6 (HS.ro gp7) lp7 (HS.ro gp8) lp8 (HS.ro gp9) lp9 (HS.ro gp10) lp10 (HS.ro gp11) lp11 (HS.ro gp12) lp12 (HS.ro gp13) lp13).mono ?_; rintro _ wt6 ⟨v7, v8, v9, v10, v11, v12, v13, v14, v15, v16, v17, v18, v19, v20, rfl, HQ⟩; refine ⟨_, rfl, ?_⟩; replace HS := HS.call HQ; clear HQ; (try clear F); obtain ⟨B7, d7, rfl, m7⟩ := HS.form 1 rfl; obtain ⟨B8, d8, rfl, m8⟩ := HS.form 2 rfl; obtain ⟨B9, d9, rfl, m9⟩ := HS.form 3 rfl; obtain ⟨B10, d10, rfl, m10⟩ := HS.form 4 rfl; obtain ⟨B11, d11, rfl, m11⟩ := HS.form 5 rfl; obtain ⟨B12, d12, rfl, m12⟩ := HS.form 6 rfl; obtain ⟨B13, d13, rfl, m13⟩ := HS.form 7 rfl; obtain ⟨B14, d14, rfl, m14⟩ := HS.form 8 rfl; obtain ⟨B15, d15, rfl, m15⟩ := HS.form 9 rfl; obtain ⟨B16, d16, rfl, m16⟩ := HS.form 10 rfl; obtain ⟨B17, d17, rfl, m17⟩ := HS.form 11 rfl; obtain ⟨B18, d18, rfl, m18⟩ := HS.form 12 rfl; obtain ⟨B19, d19, rfl, m19⟩ := HS.form 13 rfl; obtain ⟨B20, d20, rfl, m20⟩ := HS.form 14 rfl; (try simp only [hpn, hpm] at HS); have F := HS.boxes; simp only [bxn] at F) | ((with_reducible refine gate_dst (N := 14) rfl ?_); refine ev_call rfl Tryz.func22 (by kernel_rfl) rfl #[.agg #[.slice B7 t6.f0.f0.f0.length d7, .slice B8 t6.f0.f0.f1.length d8, .slice B9 t6.f0.f0.f2.length d9, .slice B10 t6.f0.f1.length d10, .int .i64 t6.f0.f2, .int .i64 t6.f0.f3, .int .i64 t6.f0.f4, .slice B11 t6.f0.f5.length d11, .string t6.f1.f0, .int .i64 t6.f1.f1, .slice B12 t6.f1.f2.length d12, .slice B13 t6.f1.f3.length d13, .slice B14 t6.f1.f4.length d14, .slice B15 t6.f2.length d15, .slice B16 t6.f3.length d16, .slice B17 t6.f4.length d17, .slice B18 t6.f5.length d18, .slice B19 t6.f6.length d19, .slice B20 t6.f7.length d20]] rfl (by simp only [mpn]; rfl) ?_; refine (spec_ShowWorld.calls ht22.out (HS.rd 1 rfl) m7 (HS.rd 2 rfl) m8 (HS.rd 3 rfl) m9 (HS.rd 4 rfl) m10 (HS.rd 5 rfl) m11 (HS.rd 6 rfl) m12 (HS.rd 7 rfl) m13 (HS.rd 8 rfl) m14 (HS.rd 9 rfl) m15 (HS.rd 10 rfl) m16 (HS.rd 11 rfl) m17 (HS.rd 12 rfl) m18 (HS.rd 13 rfl) m19 (HS.rd 14 rfl) m20).mono ?_; rintro _ wt22 ⟨rfl, HQ⟩; refine ⟨_, rfl, ?_⟩; replace HS := HS.call HQ; clear HQ; (try clear F); (try simp only [hpn, hpm] at HS); have F := HS.boxes; simp only [bxn] at F) | ((with_reducible refine gate_dst (N := 16) rfl ?_); refine ev_call rfl Tryz.func23 (by kernel_rfl) rfl #[.agg #[.slice Ap0 a0.f0.f0.f0.length cp0, .slice Ap1 a0.f0.f0.f1.length cp1, .slice Ap2 a0.f0.f0.f2.length cp2, .slice Ap3 a0.f0.f1.length cp3, .int .i64 a0.f0.f2, .int .i64 a0.f0.f3, .int .i64 a0.f0.f4, .slice Ap4 a0.f0.f5.length cp4, .string a0.f1.f0, .int .i64 a0.f1.f1, .slice Ap5 a0.f1.f2.length cp5, .slice Ap6 a0.f1.f3.length cp6, .slice Ap7 a0.f1.f4.length cp7, .slice Ap8 a0.f2.length cp8, .slice Ap9 a0.f3.length cp9, .slice Ap10 a0.f4.length cp10, .slice Ap11 a0.f5.length cp11, .slice Ap12 a0.f6.length cp12, .slice Ap13 a0.f7.length cp13]] rfl (by simp only [mpn]; rfl) ?_; refine (laws_toWorld.calls ht24.out (HS.ro gp0) lp0 (HS.ro gp1) lp1 (HS.ro gp2) lp2 (HS.ro gp3) lp3 (HS.ro gp4) lp4 (HS.ro gp5) lp5 (HS.ro gp6) lp6 (HS.ro gp7) lp7 (HS.ro gp8) lp8 (HS.ro gp9) lp9 (HS.ro gp10) lp10 (HS.ro gp11) lp11 (HS.ro gp12) lp12 (HS.ro gp13) lp13).mono ?_; rintro _ wt24 ⟨v25, v26, v27, v28, v29, v30, v31, v32, v33, v34, v35, v36, v37, v38, rfl, HQ⟩; refine ⟨_, rfl, ?_⟩; replace HS := HS.call HQ; clear HQ; (try clear F); obtain ⟨B25, d25, rfl, m25⟩ := HS.form 15 rfl; obtain ⟨B26, d26, rfl, m26⟩ := HS.form 16 rfl; obtain ⟨B27, d27, rfl, m27⟩ := HS.form 17 rfl; obtain ⟨B28, d28, rfl, m28⟩ := HS.form 18 rfl; obtain ⟨B29, d29, rfl, m29⟩ := HS.form 19 rfl; obtain ⟨B30, d30, rfl, m30⟩ := HS.form 20 rfl; obtain ⟨B31, d31, rfl, m31⟩ := HS.form 21 rfl; obtain ⟨B32, d32, rfl, m32⟩ := HS.form 22 rfl; obtain ⟨B33, d33, rfl, m33⟩ := HS.form 23 rfl; obtain ⟨B34, d34, rfl, m34⟩ := HS.form 24 rfl; obtain ⟨B35, d35, rfl, m35⟩ := HS.form 25 rfl; obtain ⟨B36, d36, rfl, m36⟩ := HS.form 26 rfl; obtain ⟨B37, d37, rfl, m37⟩ := HS.form 27 rfl; obtain ⟨B38, d38, rfl, m38⟩ := HS.form 28 rfl; (try simp only [hpn, hpm] at HS); have F := HS.boxes; simp only [bxn] at F) | ((with_reducible refine gate_dst (N := 5) rfl ?_); refine ev_box rfl HS (by first | (go_simp; done) | (go_simp; rfl)) rfl ?_; clear HS; (try clear F); intro g5 w5 HS; (try simp only [hpn, hpm] at HS); have F := HS.boxes; simp only [bxn] at F) | ((with_reducible refine gate_store (p := 5) rfl ?_); refine ev_store rfl 29 0 HS (seg := [.slice B25 t24.f0.f0.f0.length d25, .slice B26 t24.f0.f0.f1.length d26, .slice B27 t24.f0.f0.f2.length d27, .slice B28 t24.f0.f1.length d28, .int .i64 t24.f0.f2, .int .i64 t24.f0.f3, .int .i64 t24.f0.f4, .slice B29 t24.f0.f5.length d29, .string t24.f1.f0, .int .i64 t24.f1.f1, .slice B30 t24.f1.f2.length d30, .slice B31 t24.f1.f3.length d31, .slice B32 t24.f1.f4.length d32, .slice B33 t24.f2.length d33, .slice B34 t24.f3.length d34, .slice B35 t24.f4.length d35, .slice B36 t24.f5.length d36, .slice B37 t24.f6.length d37, .slice B38 t24.f7.length d38]) rfl rfl rfl rfl rfl rfl (by kernel_rfl) (by simp [wrt]) (by simp [Value.oneCell']) ?_; clear HS; (try clear F); intro w42 HS; (try simp only [hpn, hpm] at HS); have F := HS.boxes; simp only [bxn] at F) | ((with_reducible refine gate_dst (N := 18) rfl ?_); refine ev_call rfl Tryz.func24 (by kernel_rfl) rfl #[.agg #[.slice B25 t24.f0.f0.f0.length d25, .slice B26 t24.f0.f0.f1.length d26, .slice B27 t24.f0.f0.f2.length d27, .slice B28 t24.f0.f1.length d28, .int .i64 t24.f0.f2, .int .i64 t24.f0.f3, .int .i64 t24.f0.f4, .slice B29 t24.f0.f5.length d29, .string t24.f1.f0, .int .i64 t24.f1.f1, .slice B30 t24.f1.f2.length d30, .slice B31 t24.f1.f3.length d31, .slice B32 t24.f1.f4.length d32, .slice B33 t24.f2.length d33, .slice B34 t24.f3.length d34, .slice B35 t24.f4.length d35, .slice B36 t24.f5.length d36, .slice B37 t24.f6.length d37, .slice B38 t24.f7.length d38]] rfl (by simp only [mpn]; rfl) ?_; refine (impl_ShowWorld.calls ht44.out (HS.rd 15 rfl) m25 (HS.rd 16 rfl) m26 (HS.rd 17 rfl) m27 (HS.rd 18 rfl) m28 (HS.rd 19 rfl) m29 (HS.rd 20 rfl) m30 (HS.rd 21 rfl) m31 (HS.rd 22 rfl) m32 (HS.rd 23 rfl) m33 (HS.rd 24 rfl) m34 (HS.rd 25 rfl) m35 (HS.rd 26 rfl) m36 (HS.rd 27 rfl) m37 (HS.rd 28 rfl) m38 (HS.keept hgT)).mono ?_; rintro _ wt44 ⟨rfl, HQ⟩; refine ⟨_, rfl, ?_⟩; replace HS := HS.call HQ; clear HQ; (try clear F); (try simp only [hpn, hpm] at HS); have F := HS.boxes; simp only [bxn] at F))
 by_cases c46 : t44.toList = t22.toList
 case neg =>
  replace H := zneg c46 H
  have c46a := beq_eq_false_iff_ne.mpr c46
  have c46b := bne_iff_ne.mpr c46
  clear c46
  (try simp only [c46a, c46b, dcn])
  obtain rfl := zsome H
  go_wp2
  go_ret
  exact ⟨rfl, HS.pick [] (by decide) (by rfl)⟩
 replace H := zpos c46 H
 have c46a := beq_iff_eq.mpr c46
 have c46b := bne_eq_false_iff_eq.mpr c46
 clear c46
 (try simp only [c46a, c46b, dcn])
 (try go_wp2)
 replace H := zbind H; obtain ⟨t102001, ht102001, H⟩ := H
 replace H := zbind H; obtain ⟨t103001, ht103001, H⟩ := H
 refine dr_start [] HS #[false, false, false, false, false] (by kernel_rfl) rfl rfl laws_FnExactShowWorld.tT10 (fun w48 HT HS HH => ?_)
 (try clear F)
 refine drq_of [(0, some 22), (1, some 23)] ?_
 repeat (first | (refine drq_take HT HH (v := ?_) (a' := ?_) rfl rfl (by kernel_rfl) (fun _ _ _ h => h) (.inl ⟨by rfl, ?_⟩) ?_ ?_; rotate_left; (rintro w' ⟨rs', HS'⟩; have F := HS'.boxes; simp only [bxn, List.cons_append, List.nil_append] at F; go_simp; with_reducible rfl); rotate_left; (simp only [Act.put, ptn]; rfl)))
 refine drq_end ?_
 refine dr_one 2 HT rfl (by kernel_rfl) (by decide) (fun K hK => ?_)
 refine goes_ Tryz.func23 (by kernel_rfl) rfl #[.agg #[.slice Ap0 a0.f0.f0.f0.length cp0, .slice Ap1 a0.f0.f0.f1.length cp1, .slice Ap2 a0.f0.f0.f2.length cp2, .slice Ap3 a0.f0.f1.length cp3, .int .i64 a0.f0.f2, .int .i64 a0.f0.f3, .int .i64 a0.f0.f4, .slice Ap4 a0.f0.f5.length cp4, .string a0.f1.f0, .int .i64 a0.f1.f1, .slice Ap5 a0.f1.f2.length cp5, .slice Ap6 a0.f1.f3.length cp6, .slice Ap7 a0.f1.f4.length cp7, .slice Ap8 a0.f2.length cp8, .slice Ap9 a0.f3.length cp9, .slice Ap10 a0.f4.length cp10, .slice Ap11 a0.f5.length cp11, .slice Ap12 a0.f6.length cp12, .slice Ap13 a0.f7.length cp13]] (by rfl) rfl rfl (by simp only [mpn]; rfl) ?_; refine (laws_toWorld.calls ht102001.out (HS.ro gp0) lp0 (HS.ro gp1) lp1 (HS.ro gp2) lp2 (HS.ro gp3) lp3 (HS.ro gp4) lp4 (HS.ro gp5) lp5 (HS.ro gp6) lp6 (HS.ro gp7) lp7 (HS.ro gp8) lp8 (HS.ro gp9) lp9 (HS.ro gp10) lp10 (HS.ro gp11) lp11 (HS.ro gp12) lp12 (HS.ro gp13) lp13).mono ?_; rintro _ wt102001 ⟨v102002, v102003, v102004, v102005, v102006, v102007, v102008, v102009, v102010, v102011, v102012, v102013, v102014, v102015, rfl, HQ⟩; refine ⟨_, rfl, ?_⟩; replace HS := HS.call HQ; clear HQ; (try clear F); obtain ⟨B102002, d102002, rfl, m102002⟩ := HS.form 30 rfl; obtain ⟨B102003, d102003, rfl, m102003⟩ := HS.form 31 rfl; obtain ⟨B102004, d102004, rfl, m102004⟩ := HS.form 32 rfl; obtain ⟨B102005, d102005, rfl, m102005⟩ := HS.form 33 rfl; obtain ⟨B102006, d102006, rfl, m102006⟩ := HS.form 34 rfl; obtain ⟨B102007, d102007, rfl, m102007⟩ := HS.form 35 rfl; obtain ⟨B102008, d102008, rfl, m102008⟩ := HS.form 36 rfl; obtain ⟨B102009, d102009, rfl, m102009⟩ := HS.form 37 rfl; obtain ⟨B102010, d102010, rfl, m102010⟩ := HS.form 38 rfl; obtain ⟨B102011, d102011, rfl, m102011⟩ := HS.form 39 rfl; obtain ⟨B102012, d102012, rfl, m102012⟩ := HS.form 40 rfl; obtain ⟨B102013, d102013, rfl, m102013⟩ := HS.form 41 rfl; obtain ⟨B102014, d102014, rfl, m102014⟩ := HS.form 42 rfl; obtain ⟨B102015, d102015, rfl, m102015⟩ := HS.form 43 rfl
 (try simp only [hpn, hpm] at HS)
 have F := HS.boxes; simp only [bxn] at F
 refine hK.out _ _ ⟨_, HS⟩ (fun HH => ?_)
 clear hK K
 refine norm_ (a' := ?_) ?_ ?_
 rotate_left
 · show Act.put _ (some 24) _ = _; simp only [Act.put, ptn]; rfl
 refine dr_one 3 HT rfl (by kernel_rfl) (by decide) (fun K hK => ?_)
 refine goes_ Tryz.func25 (by kernel_rfl) rfl #[.agg #[.slice B25 t24.f0.f0.f0.length d25, .slice B26 t24.f0.f0.f1.length d26, .slice B27 t24.f0.f0.f2.length d27, .slice B28 t24.f0.f1.length d28, .int .i64 t24.f0.f2, .int .i64 t24.f0.f3, .int .i64 t24.f0.f4, .slice B29 t24.f0.f5.length d29, .string t24.f1.f0, .int .i64 t24.f1.f1, .slice B30 t24.f1.f2.length d30, .slice B31 t24.f1.f3.length d31, .slice B32 t24.f1.f4.length d32, .slice B33 t24.f2.length d33, .slice B34 t24.f3.length d34, .slice B35 t24.f4.length d35, .slice B36 t24.f5.length d36, .slice B37 t24.f6.length d37, .slice B38 t24.f7.length d38], .agg #[.slice B102002 t102001.f0.f0.f0.length d102002, .slice B102003 t102001.f0.f0.f1.length d102003, .slice B102004 t102001.f0.f0.f2.length d102004, .slice B102005 t102001.f0.f1.length d102005, .int .i64 t102001.f0.f2, .int .i64 t102001.f0.f3, .int .i64 t102001.f0.f4, .slice B102006 t102001.f0.f5.length d102006, .string t102001.f1.f0, .int .i64 t102001.f1.f1, .slice B102007 t102001.f1.f2.length d102007, .slice B102008 t102001.f1.f3.length d102008, .slice B102009 t102001.f1.f4.length d102009, .slice B102010 t102001.f2.length d102010, .slice B102011 t102001.f3.length d102011, .slice B102012 t102001.f4.length d102012, .slice B102013 t102001.f5.length d102013, .slice B102014 t102001.f6.length d102014, .slice B102015 t102001.f7.length d102015]] (by rfl) rfl rfl (by simp only [mpn]; rfl) ?_; refine (laws_eqWorld.calls ht103001.out (HS.rd 15 rfl) m25 (HS.rd 16 rfl) m26 (HS.rd 17 rfl) m27 (HS.rd 18 rfl) m28 (HS.rd 19 rfl) m29 (HS.rd 20 rfl) m30 (HS.rd 21 rfl) m31 (HS.rd 22 rfl) m32 (HS.rd 23 rfl) m33 (HS.rd 24 rfl) m34 (HS.rd 25 rfl) m35 (HS.rd 26 rfl) m36 (HS.rd 27 rfl) m37 (HS.rd 28 rfl) m38 (HS.rd 30 rfl) m102002 (HS.rd 31 rfl) m102003 (HS.rd 32 rfl) m102004 (HS.rd 33 rfl) m102005 (HS.rd 34 rfl) m102006 (HS.rd 35 rfl) m102007 (HS.rd 36 rfl) m102008 (HS.rd 37 rfl) m102009 (HS.rd 38 rfl) m102010 (HS.rd 39 rfl) m102011 (HS.rd 40 rfl) m102012 (HS.rd 41 rfl) m102013 (HS.rd 42 rfl) m102014 (HS.rd 43 rfl) m102015).mono ?_; rintro _ wt103001 ⟨rfl, HQ⟩; refine ⟨_, rfl, ?_⟩; replace HS := HS.call HQ; clear HQ; (try clear F)
 (try simp only [hpn, hpm] at HS)
 have F := HS.boxes; simp only [bxn] at F
 refine hK.out _ _ ⟨_, HS⟩ (fun HH => ?_)
 clear hK K
 refine norm_ (a' := ?_) ?_ ?_
 rotate_left
 · show Act.put _ (some 25) _ = _; simp only [Act.put, ptn]; rfl
 refine drq_of [(4, some 26)] ?_
 repeat (first | (refine drq_pure HT (v := ?_) (a' := ?_) rfl rfl (by kernel_rfl) (fun _ _ _ h => h) (.inl ⟨by rfl, ?_⟩) ?_ ?_; rotate_left; (intro w'; go_simp; with_reducible rfl); rotate_left; (simp only [Act.put, ptn]; rfl)))
 refine drq_end ?_
 refine done_ (done_of HT.out (by kernel_rfl)) ?_
 (try clear F)
 have F := HS.boxes; simp only [bxn] at F
 by_cases c50 : t103001 = true
 case pos =>
  replace H := zpos c50 H
  subst c50
  (try simp only [dcn, if_true, Bool.false_eq_true, if_false])
  obtain rfl := zsome H
  go_wp2
  go_ret
  exact ⟨rfl, HS.pick [] (by decide) (by rfl)⟩
 replace H := zneg c50 H
 replace c50 := eq_false_of_ne_true c50
 subst c50
 (try simp only [dcn, if_true, Bool.false_eq_true, if_false])
 obtain rfl := zsome H
 go_wp2
 go_ret
 exact ⟨rfl, HS.pick [] (by decide) (by rfl)⟩
end Go.Proofs.YtacocpknielofaaGreatDoor.F
