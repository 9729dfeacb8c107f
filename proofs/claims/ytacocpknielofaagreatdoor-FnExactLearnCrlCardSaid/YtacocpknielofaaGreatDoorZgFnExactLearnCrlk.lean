/- Functions of the program and of the law, and that their calls do what is written here. -/
import Derived.Test.YtacocpknielofaaGreatDoorZgFnExactLearnCrlf
import Derived.Test.YtacocpknielofaaGreatDoorZgFnExactLearnCrlg
import Derived.Test.YtacocpknielofaaGreatDoorZgFnExactLearnCrli
import Derived.Test.YtacocpknielofaaGreatDoorZgFnExactLearnCrlj
namespace Go.Proofs.YtacocpknielofaaGreatDoor.F
open Go.RowKit YtacocpknielofaaGreatDoorW.PrintWords YtacocpknielofaaGreatDoorW.PrintLast YtacocpknielofaaGreatDoorW.PrintMore Z
attribute [local go_sem] max2_int min2_int max_two min_two max_three min_three max_four min_four
set_option linter.unusedVariables false
set_option linter.unusedSimpArgs false
set_option maxRecDepth 100000
set_option maxHeartbeats 16000000
def impl_StoreOk_1.f (k : Nat) (a0 : S115) : Option (ByteArray × Bool) := ((impl_NameOk.f k a0.f0).bind fun t3 => (if t3 = true then (some (a0.f0, ((a0.f1.size : Int) == 15))) else (some (a0.f0, false))))
def impl_StoreOk_1.T1 : TT := (true, [([], []), ([0], [0]), ([], []), ([2], [2]), ([3], [3]), ([4, 4], [4]), ([5], [5]), ([6, 5], [5, 6]), ([7, 5], [5, 7]), ([8, 5], [5, 8]), ([5, 9], [5, 9]), ([1, 5, 0, 1], [1]), ([10, 11, 0, 1, 2, 3, 4, 5, 6, 7, 8, 9, 10, 11], [10])])
theorem impl_StoreOk_1.tT1 : rtab .any (opsOf Tryz.f61 1) = impl_StoreOk_1.T1 := by kernel_rfl
theorem impl_StoreOk_1.calls {k : Nat} {a0 : S115} {mG : Int} {r1 : ByteArray} {r2 : Bool} {w : World} (h : impl_StoreOk_1.f k a0 = some (r1, r2)) (hgM : w.cell? ⟨0, 0, none⟩ = some (.int .i64 mG)) :
    Calls Tryz.prog 61 #[.agg #[.string a0.f0, .string a0.f1]] w (fun e w' => e = .returned (.tuple #[.string r1, .bool r2]) ∧ Hp noFP w w' []) := by
 have HS := Hp.start w
 have H := Aside0.mk h
 clear h
 unfold impl_StoreOk_1.f at H
 go_enter Tryz.func61, Tryz.ntmps61
 go_wp2_with ((with_reducible refine gd 1 rfl ?_); refine ev_bx HS ?_; clear HS; intro g1 w1 HS F)
 replace H := zbind H; obtain ⟨t3, ht3, H⟩ := H
 replace H := znifb H; rcases H with ⟨c5, H⟩ | ⟨c5, H⟩
 case inl =>
  subst c5
  refine dr_start [] HS #[false, false, false, false, false, false, false, false, false, false, false, false, false] (by kernel_rfl) rfl rfl impl_StoreOk_1.tT1 (fun w6 HT HS HH => ?_)
  (try clear F)
  refine drq_of [(0, some 4), (1, some 5), (2, some 6), (3, some 7)] ?_
  repeat (first | refine drp HT ?_ | refine drt HT HH ?_)
  refine drq_end ?_
  refine dr1 4 HT fun K hK => ?_
  refine go_cl HS (impl_NameOk.calls ht3.out (HS.keepc hgM)) Tryz.func62 ?_; clear HS; intro wt3 HS F
  refine nrm 8 hK ⟨_, HS⟩ (fun HH => ?_); clear hK K
  refine drq_of [(5, some 9), (6, some 10), (7, some 11), (8, some 12), (9, some 13), (10, some 14), (11, some 2), (12, some 3)] ?_
  repeat (first | refine drp HT ?_ | (refine drq_pure HT (v := undef) (a' := ?_) rfl rfl (by kernel_rfl) (fun _ _ _ h => h) (.inr ⟨by rfl, rfl⟩) ?_ ?_; rotate_left; (simp only [Act.put, ptn]; rfl)))
  refine drq_end ?_
  refine done_ (done_of HT.out (by kernel_rfl)) ?_
  (try clear F)
  have F := HS.boxes; simp only [bxn] at F
  obtain ⟨rfl, rfl⟩ := zsome2 H
  go_wp2
  exact bodyPost_ret (results_list (rs := [.tmp 2, .tmp 3]) rfl (by simp) (.tmp (.tmp .nil))) rfl ⟨rfl, HS.pick [] (by decide) (by rfl)⟩
 subst c5
 refine dr_start [] HS #[false, false, false, false, false, false, false, false, false, false, false, false, false] (by kernel_rfl) rfl rfl impl_StoreOk_1.tT1 (fun w4 HT HS HH => ?_)
 (try clear F)
 refine drq_of [(0, some 4), (1, some 5), (2, some 6), (3, some 7)] ?_
 repeat (first | refine drp HT ?_ | refine drt HT HH ?_)
 refine drq_end ?_
 refine dr1 4 HT fun K hK => ?_
 refine go_cl HS (impl_NameOk.calls ht3.out (HS.keepc hgM)) Tryz.func62 ?_; clear HS; intro wt3 HS F
 refine nrm 8 hK ⟨_, HS⟩ (fun HH => ?_); clear hK K
 refine drq_of [(5, some 9), (6, some 10), (7, some 11), (8, some 12), (9, some 13), (10, some 14), (11, some 2), (12, some 3)] ?_
 repeat (first | refine drp HT ?_ | refine drt HT HH ?_)
 refine drq_end ?_
 refine done_ (done_of HT.out (by kernel_rfl)) ?_
 (try clear F)
 have F := HS.boxes; simp only [bxn] at F
 obtain ⟨rfl, rfl⟩ := zsome2 H
 go_wp2
 exact bodyPost_ret (results_list (rs := [.tmp 2, .tmp 3]) rfl (by simp) (.tmp (.tmp .nil))) rfl ⟨rfl, HS.pick [] (by decide) (by rfl)⟩
def impl_Anchor_0.l0 : Nat → (List ByteArray) → Int → (List S115) → Option (Bool)
  | 0, _, _, _ => none
  | k + 1, l19, x21, a0 => (if x21 < (a0.length : Int) then (if 0 ≤ x21 then (if x21 < (a0.length : Int) then ((impl_StoreOk_1.f k (rd_T115 a0 x21)).bind fun t31 => (if t31.2 = true then ((slices_Contains_string_string.f k l19 t31.1).bind fun t34 => (if t34 = true then (some false) else (if l19.length + 1 ≤ 8796093022208 then (lets (l19 ++ ([t31.1] : List ByteArray)) fun y40 => (impl_Anchor_0.l0 k y40 (wrap64 (x21 + 1)) a0)) else none))) else (some false))) else none) else none) else (some true))
def impl_Anchor_0.f (k : Nat) (a0 : (List S115)) : Option (Bool) := (impl_Anchor_0.l0 k [] 0 a0)
theorem impl_Anchor_0.calls {k : Nat} {a0 : (List S115)} {Ap0 : Option Addr} {np0 cp0 : Nat} {mG : Int} {r : Bool} {w : World} (h : impl_Anchor_0.f k a0 = some r) (gp0 : k115.C w Ap0 np0 a0) (lp0 : np0 ≤ cp0) (hgM : w.cell? ⟨0, 0, none⟩ = some (.int .i64 mG)) :
    Calls Tryz.prog 67 #[.slice Ap0 np0 cp0, .func (.func 61) #[] #[]] w (fun e w' => e = .returned (.bool r) ∧ Hp noFP w w' []) := by
 obtain rfl := C_len gp0
 have HS := Hp.start w
 have H := Aside0.mk h
 clear h
 unfold impl_Anchor_0.f at H
 go_enter Tryz.func67, Tryz.ntmps67
 go_wp2
 replace HS := HS.nil 9 Zd.string
 go_loopg [5, 12] k (fun kq v_5 v_12 w' => ∃ (l19 : List ByteArray) (v20 : Value) (x21 : Int), v_5 = v20 ∧ v_12 = .int .i64 x21 ∧ Aside0 (impl_Anchor_0.l0 kq l19 x21 a0 = some r) ∧ Aside0 (kq ≤ k) ∧ Hp noFP w w' [.own (Zd.slice 9 Zd.string) l19 [v20]])
 case atStart => exact ⟨_, _, _, rfl, rfl, H, ⟨Nat.le_refl _⟩, HS⟩
 case round =>
  clear HS H; (try clear F)
  obtain ⟨l19, v20, x21, rfl, rfl, H, HKk18, HS⟩ := hrel
  obtain ⟨B20, d20, rfl, m20⟩ := HS.form 0 rfl
  cases gk with
  | zero => exact absurd H.out (by simp [impl_Anchor_0.l0])
  | succ k18 =>
   simp only [impl_Anchor_0.l0] at H
   replace H := znif H; rcases H with ⟨c23, H⟩ | ⟨c23, H⟩
   case inl =>
    obtain rfl := zsome H
    go_wp2
    go_ret
    exact HS.pk
   replace H := zgo H; obtain ⟨c24, H⟩ := H
   replace H := zgo H; obtain ⟨c25, H⟩ := H
   obtain ⟨ad26, rfl, e26_0, e26_1⟩ := at_T115 gp0 x21 (of_eq_true c24) (of_eq_true c25)
   have e26_0_26 := HS.keepc e26_0
   have e26_1_26 := HS.keepc e26_1
   replace H := zbind H; obtain ⟨t31, ht31, H⟩ := H
   replace H := znifb H; rcases H with ⟨c33, H⟩ | ⟨c33, H⟩
   case inl =>
    obtain rfl := zsome H
    go_wp2_with (first | ((with_reducible refine gd 7 rfl ?_); refine ev_bx HS ?_; clear HS; intro g7 w7 HS F) | ((with_reducible refine gate_store (p := 7) rfl ?_); refine ev_st 1 0 HS (seg := [.string ((rd_T115 a0 x21).f0), .string ((rd_T115 a0 x21).f1)]) ?_; clear HS; intro w29 HS F) | ((with_reducible refine gd 19 rfl ?_); refine ev_callv rfl Tryz.func61 (by kernel_rfl) rfl #[.agg #[.string ((rd_T115 a0 x21).f0), .string ((rd_T115 a0 x21).f1)]] #[.agg #[.string ((rd_T115 a0 x21).f0), .string ((rd_T115 a0 x21).f1)]] rfl rfl (by simp only [mpn]; rfl) (by first | rfl | simp) ?_; refine (impl_StoreOk_1.calls ht31.out (HS.keepc hgM)).mono ?_; rintro _ wt31 ⟨rfl, HQ⟩; refine ⟨_, rfl, ?_⟩; replace HS := HS.call HQ; clear HQ; (try clear F); (try simp only [hpn, hpm] at HS); have F := HS.boxes; simp only [bxn] at F; (try simp only [c33])))
    go_ret
    exact HS.pk
   replace H := zbind H; obtain ⟨t34, ht34, H⟩ := H
   go_upto_if 28 with (first | ((with_reducible refine gd 7 rfl ?_); refine ev_bx HS ?_; clear HS; intro g7 w7 HS F) | ((with_reducible refine gate_store (p := 7) rfl ?_); refine ev_st 1 0 HS (seg := [.string ((rd_T115 a0 x21).f0), .string ((rd_T115 a0 x21).f1)]) ?_; clear HS; intro w29 HS F) | ((with_reducible refine gd 19 rfl ?_); refine ev_callv rfl Tryz.func61 (by kernel_rfl) rfl #[.agg #[.string ((rd_T115 a0 x21).f0), .string ((rd_T115 a0 x21).f1)]] #[.agg #[.string ((rd_T115 a0 x21).f0), .string ((rd_T115 a0 x21).f1)]] rfl rfl (by simp only [mpn]; rfl) (by first | rfl | simp) ?_; refine (impl_StoreOk_1.calls ht31.out (HS.keepc hgM)).mono ?_; rintro _ wt31 ⟨rfl, HQ⟩; refine ⟨_, rfl, ?_⟩; replace HS := HS.call HQ; clear HQ; (try clear F); (try simp only [hpn, hpm] at HS); have F := HS.boxes; simp only [bxn] at F; (try simp only [c33])) | ((with_reducible refine gd 27 rfl ?_); refine gg ?_; refine ev_cl HS (slices_Contains_string_string.calls ht34.out (HS.rd 0 rfl) m20) Tryz.func143 ?_; clear HS; intro wt34 HS F))
   replace H := zifb H; rcases H with ⟨c36, H⟩ | ⟨c36, H⟩
   case inl =>
    subst c36
    (try simp only [dcn, dcu, dcf])
    obtain rfl := zsome H
    go_wp2
    go_ret
    exact HS.pk
   subst c36
   (try simp only [dcn, dcu, dcf])
   replace H := zgo H; obtain ⟨c39, H⟩ := H
   replace H := zlets H; obtain ⟨y40, e_y40, H⟩ := H
   go_wp2_with (first | ((with_reducible refine gd 31 rfl ?_); refine ev_li Zd.string [] ([t31.1] : List ByteArray) ([.string t31.1] ++ []) HS (MadeL.cons (js1 := []) (c := [.string t31.1]) rfl (made_flat (fun _ => rfl)) MadeL.nil (by decide)) ?_; clear HS; intro v37 w37 HS F; obtain ⟨B37, d37, rfl, m37⟩ := HS.formn 1 2 rfl rfl) | ((with_reducible refine gd 32 rfl ?_); refine ev_ap Zd.string 0 2 HS rfl rfl Tryz.underlying57 info9 (of_eq_true c39) ?_; clear HS; intro v40 w40 HS; rw [← e_y40.out] at HS; obtain ⟨B40, d40, rfl, m40⟩ := HS.form 3 rfl; (try simp only [hpn, hpm] at HS); have F := HS.boxes; simp only [bxn] at F))
   go_roundg k18
   case measure => have := HKk18.out; omega
   case rel => exact ⟨_, _, _, rfl, rfl, H, ⟨by have := HKk18.out; omega⟩, HS.pick [3] (by decide) (by rfl)⟩
def impl_StoreOk.f (k : Nat) (a0 : S33) : Option (Bool) := (if (a0.f0.length : Int) ≤ 12 then (if (a0.f1.length : Int) ≤ 8 then (if (a0.f2.length : Int) ≤ 3 then ((impl_Cert_63_0.f k a0.f0).bind fun t6 => (if t6 = true then ((impl_Crl_0.f k a0.f1).bind fun t9 => (if t9 = true then ((impl_Anchor_0.f k a0.f2).bind fun t12 => (some t12)) else (some false))) else (some false))) else (some false)) else (some false)) else (some false))
theorem impl_StoreOk.calls {k : Nat} {a0 : S33} {Ap0 Ap1 Ap2 : Option Addr} {np0 cp0 np1 cp1 np2 cp2 : Nat} {mG : Int} {r : Bool} {w : World} (h : impl_StoreOk.f k a0 = some r) (gp0 : k91.C w Ap0 np0 a0.f0) (lp0 : np0 ≤ cp0) (gp1 : k81.C w Ap1 np1 a0.f1) (lp1 : np1 ≤ cp1) (gp2 : k115.C w Ap2 np2 a0.f2) (lp2 : np2 ≤ cp2) (hgM : w.cell? ⟨0, 0, none⟩ = some (.int .i64 mG)) :
    Calls Tryz.prog 14 #[.agg #[.slice Ap0 np0 cp0, .slice Ap1 np1 cp1, .slice Ap2 np2 cp2]] w (fun e w' => e = .returned (.bool r) ∧ Hp noFP w w' []) := by
 obtain rfl := C_len gp0
 obtain rfl := C_len gp1
 obtain rfl := C_len gp2
 have HS := Hp.start w
 have H := Aside0.mk h
 clear h
 unfold impl_StoreOk.f at H
 go_enter Tryz.func14, Tryz.ntmps14
 replace H := znif H; rcases H with ⟨c3, H⟩ | ⟨c3, H⟩
 case inl =>
  obtain rfl := zsome H
  go_wp2_with ((with_reducible refine gd 1 rfl ?_); refine ev_bx HS ?_; clear HS; intro g1 w1 HS F)
  go_ret
  exact HS.pk
 replace H := znif H; rcases H with ⟨c4, H⟩ | ⟨c4, H⟩
 case inl =>
  obtain rfl := zsome H
  go_wp2_with ((with_reducible refine gd 1 rfl ?_); refine ev_bx HS ?_; clear HS; intro g1 w1 HS F)
  go_ret
  exact HS.pk
 replace H := znif H; rcases H with ⟨c5, H⟩ | ⟨c5, H⟩
 case inl =>
  obtain rfl := zsome H
  go_wp2_with ((with_reducible refine gd 1 rfl ?_); refine ev_bx HS ?_; clear HS; intro g1 w1 HS F)
  go_ret
  exact HS.pk
 replace H := zbind H; obtain ⟨t6, ht6, H⟩ := H
 replace H := znifb H; rcases H with ⟨c8, H⟩ | ⟨c8, H⟩
 case inl =>
  subst c8
  obtain rfl := zsome H
  go_wp2_with (first | ((with_reducible refine gd 1 rfl ?_); refine ev_bx HS ?_; clear HS; intro g1 w1 HS F) | ((with_reducible refine gd 23 rfl ?_); refine gg ?_; refine ev_cl HS (impl_Cert_63_0.calls ht6.out (HS.ro gp0) lp0 (HS.keepc hgM)) Tryz.func63 ?_; clear HS; intro wt6 HS F))
  go_ret
  exact HS.pk
 subst c8
 replace H := zbind H; obtain ⟨t9, ht9, H⟩ := H
 replace H := znifb H; rcases H with ⟨c11, H⟩ | ⟨c11, H⟩
 case inl =>
  subst c11
  obtain rfl := zsome H
  go_wp2_with (first | ((with_reducible refine gd 1 rfl ?_); refine ev_bx HS ?_; clear HS; intro g1 w1 HS F) | ((with_reducible refine gd 23 rfl ?_); refine gg ?_; refine ev_cl HS (impl_Cert_63_0.calls ht6.out (HS.ro gp0) lp0 (HS.keepc hgM)) Tryz.func63 ?_; clear HS; intro wt6 HS F) | ((with_reducible refine gd 28 rfl ?_); refine gg ?_; refine ev_cl HS (impl_Crl_0.calls ht9.out (HS.ro gp1) lp1 (HS.keepc hgM)) Tryz.func65 ?_; clear HS; intro wt9 HS F))
  go_ret
  exact HS.pk
 subst c11
 replace H := zbind H; obtain ⟨t12, ht12, H⟩ := H
 obtain rfl := zsome H
 go_wp2_with (first | ((with_reducible refine gd 1 rfl ?_); refine ev_bx HS ?_; clear HS; intro g1 w1 HS F) | ((with_reducible refine gd 23 rfl ?_); refine gg ?_; refine ev_cl HS (impl_Cert_63_0.calls ht6.out (HS.ro gp0) lp0 (HS.keepc hgM)) Tryz.func63 ?_; clear HS; intro wt6 HS F) | ((with_reducible refine gd 28 rfl ?_); refine gg ?_; refine ev_cl HS (impl_Crl_0.calls ht9.out (HS.ro gp1) lp1 (HS.keepc hgM)) Tryz.func65 ?_; clear HS; intro wt9 HS F) | ((with_reducible refine gd 34 rfl ?_); refine gg ?_; refine ev_cl HS (impl_Anchor_0.calls ht12.out (HS.ro gp2) lp2 (HS.keepc hgM)) Tryz.func67 ?_; clear HS; intro wt12 HS F))
 go_ret
 exact HS.pk
def impl_AddCrl.f (k : Nat) (a0 : S33) (a1 : S81) : Option (S33 × Bool) := ((impl_copyStore.f k a0).bind fun t7 => ((impl_copyCrl.f a1).bind fun t11 => (if t7.f1.length + 1 ≤ 1599289640401 then (lets (t7.f1 ++ ([t11] : List S81)) fun y16 => ((impl_StoreOk.f k (⟨t7.f0, y16, t7.f2⟩ : S33)).bind fun t19 => (if t19 = true then (some ((⟨t7.f0, y16, t7.f2⟩ : S33), true)) else ((impl_copyStore.f k a0).bind fun t24 => (some ((⟨t24.f0, t24.f1, t24.f2⟩ : S33), false)))))) else none)))
def impl_AddCrl.T2 : TT := (true, [([], []), ([0], [0]), ([], []), ([2], [2]), ([3], [3]), ([1, 4, 3], [1, 4]), ([0, 1, 2, 3, 4, 5], []), ([6, 5, 5, 0, 1, 2, 3, 4, 5], [5, 6])])
theorem impl_AddCrl.tT2 : rtab .any (opsOf Tryz.f29 2) = impl_AddCrl.T2 := by kernel_rfl
theorem impl_AddCrl.calls {k : Nat} {a0 : S33} {a1 : S81} {Ap0 Ap1 Ap2 Ap3 : Option Addr} {np0 cp0 np1 cp1 np2 cp2 np3 cp3 : Nat} {mG : Int} {r1 : S33} {r2 : Bool} {w : World} (h : impl_AddCrl.f k a0 a1 = some (r1, r2)) (gp0 : k91.C w Ap0 np0 a0.f0) (lp0 : np0 ≤ cp0) (gp1 : k81.C w Ap1 np1 a0.f1) (lp1 : np1 ≤ cp1) (gp2 : k115.C w Ap2 np2 a0.f2) (lp2 : np2 ≤ cp2) (gp3 : k238.C w Ap3 np3 a1.f5) (lp3 : np3 ≤ cp3) (hgM : w.cell? ⟨0, 0, none⟩ = some (.int .i64 mG)) :
    Calls Tryz.prog 29 #[.agg #[.slice Ap0 np0 cp0, .slice Ap1 np1 cp1, .slice Ap2 np2 cp2], .agg #[.string a1.f0, .int .i64 a1.f1, .int .i64 a1.f2, .int .i64 a1.f3, .int .i64 a1.f4, .slice Ap3 np3 cp3, .string a1.f6]] w (fun e w' => ∃ v0_ v1_ v2_ : Value, e = .returned (.tuple #[.agg #[v0_, v1_, v2_], .bool r2]) ∧ Hp noFP w w' [.own (Zd.slice 91 q91) r1.f0 [v0_], .own (Zd.slice 81 q81) r1.f1 [v1_], .own (Zd.slice 115 q115) r1.f2 [v2_]]) := by
 obtain rfl := C_len gp0
 obtain rfl := C_len gp1
 obtain rfl := C_len gp2
 obtain rfl := C_len gp3
 have HS := Hp.start w
 have H := Aside0.mk h
 clear h
 unfold impl_AddCrl.f at H
 go_enter Tryz.func29, Tryz.ntmps29
 replace H := zbind H; obtain ⟨t7, ht7, H⟩ := H
 go_wp2_with (first | ((with_reducible refine gd 2 rfl ?_); refine ev_bx HS ?_; clear HS; intro g2 w2 HS F) | ((with_reducible refine gd 3 rfl ?_); refine ev_bx HS ?_; clear HS; intro g3 w3 HS F) | ((with_reducible refine gd 4 rfl ?_); refine ev_bx HS ?_; clear HS; intro g4 w4 HS F) | ((with_reducible refine gd 8 rfl ?_); refine ev_cl3 HS (impl_copyStore.calls ht7.out (HS.ro gp0) lp0 (HS.ro gp1) lp1 (HS.ro gp2) lp2) Tryz.func108 ?_; clear HS; intro v8 v9 v10 wt7 HS F; obtain ⟨B8, d8, rfl, m8⟩ := HS.form 3 rfl; obtain ⟨B9, d9, rfl, m9⟩ := HS.form 4 rfl; obtain ⟨B10, d10, rfl, m10⟩ := HS.form 5 rfl) | ((with_reducible refine gd 6 rfl ?_); refine ev_bx HS ?_; clear HS; intro g6 w6 HS F) | ((with_reducible refine gate_store (p := 6) rfl ?_); refine ev_st 6 0 HS (seg := [.slice B8 t7.f0.length d8, .slice B9 t7.f1.length d9, .slice B10 t7.f2.length d10]) ?_; clear HS; intro w14 HS F))
 replace H := zbind H; obtain ⟨t11, ht11, H⟩ := H
 replace H := zgo H; obtain ⟨c15, H⟩ := H
 replace H := zlets H; obtain ⟨y16, e_y16, H⟩ := H
 refine dr_start2 [.box g2 [.slice Ap0 a0.f0.length cp0, .slice Ap1 a0.f1.length cp1, .slice Ap2 a0.f2.length cp2] 33, .box g3 [.string a1.f0, .int .i64 a1.f1, .int .i64 a1.f2, .int .i64 a1.f3, .int .i64 a1.f4, .slice Ap3 a1.f5.length cp3, .string a1.f6] 81, .box g4 [.slice none 0 0, .slice none 0 0, .slice none 0 0] 33, .own (Zd.slice 91 q91) t7.f0 [.slice B8 t7.f0.length d8], .emp, .own (Zd.slice 115 q115) t7.f2 [.slice B10 t7.f2.length d10], .box g6 [.slice B8 t7.f0.length d8, .slice B9 t7.f1.length d9, .slice B10 t7.f2.length d10] 33] [7] HS (HS.arr [some 0, some 1, some 2, some 3, none, some 5, some 6] (by decide)) #[false, false, false, false, false, false, false, false] (by kernel_rfl) rfl rfl impl_AddCrl.tT2 (fun w17 HT HS HH => ?_)
 (try clear F)
 refine drq_of [(0, some 9), (1, some 10), (2, some 11)] ?_
 repeat (first | refine drp HT ?_ | refine drt HT HH ?_)
 refine drq_end ?_
 refine dr1 3 HT fun K hK => ?_
 refine go_cl1 HS (impl_copyCrl.calls ht11.out (HS.ro gp3) lp3) Tryz.func109 ?_; clear HS; intro v12 wt11 HS F; obtain ⟨B12, d12, rfl, m12⟩ := HS.form 7 rfl
 refine hK.out _ _ ⟨[], HS.arr [some 0, some 1, some 2, some 3, none, some 5, some 6] (by decide)⟩ (fun HH => ?_)
 clear hK K
 refine norm_ (a' := ?_) ?_ ?_
 rotate_left
 · show Act.put _ (some 12) _ = _; simp only [Act.put, ptn]; rfl
 refine dr1 4 HT fun K hK => ?_
 refine if_li q81 [7] ([t11] : List S81) ([.string t11.f0, .int .i64 t11.f1, .int .i64 t11.f2, .int .i64 t11.f3, .int .i64 t11.f4, .slice B12 t11.f5.length d12, .string t11.f6] ++ []) HS (MadeL.cons (js1 := [7]) (c := [.string t11.f0, .int .i64 t11.f1, .int .i64 t11.f2, .int .i64 t11.f3, .int .i64 t11.f4, .slice B12 t11.f5.length d12, .string t11.f6]) rfl (fun S hd hh => q81_pack (x := t11) hd (hh 7 (.own (Zd.slice 238 q238) t11.f5 [.slice B12 t11.f5.length d12]) rfl) (by decide)) MadeL.nil (by decide)) ?_; clear HS; intro v13 w13 HS F; obtain ⟨B13, d13, rfl, m13⟩ := HS.formn 1 8 rfl rfl
 refine hK.out _ _ ⟨[], HS.arr [some 0, some 1, some 2, some 3, none, some 5, some 6] (by decide)⟩ (fun HH => ?_)
 clear hK K
 refine norm_ (a' := ?_) ?_ ?_
 rotate_left
 · show Act.put _ (some 13) _ = _; simp only [Act.put, ptn]; rfl
 refine dr1 5 HT fun K hK => ?_
 refine wp_ap q81 4 8 HS rfl rfl Tryz.underlying30 info81 (of_eq_true c15) ?_; clear HS; intro v16 w16 HS; rw [← e_y16.out] at HS; obtain ⟨B16, d16, rfl, m16⟩ := HS.form 9 rfl
 (try simp only [hpn, hpm] at HS)
 have F := HS.boxes; simp only [bxn] at F
 refine hK.out _ _ ⟨[], HS.arr [some 0, some 1, some 2, some 3, none, some 5, some 6] (by decide)⟩ (fun HH => ?_)
 clear hK K
 refine norm_ (a' := ?_) ?_ ?_
 rotate_left
 · show Act.put _ (some 14) _ = _; simp only [Act.put, ptn]; rfl
 refine drq_of [(6, some 15)] ?_
 repeat (refine drp HT ?_)
 refine drq_end ?_
 refine dr_last 7 HT rfl (by kernel_rfl) (by decide) (fun K hK => ?_)
 refine if_st 6 1 HS (seg := [.slice B16 y16.length d16]) ?_; clear HS; intro w18 HS F
 refine hK.out _ _ ?_
 clear hK K
 refine done_ (done_of HT.out (by kernel_rfl)) ?_
 (try clear F)
 have F := HS.boxes; simp only [bxn] at F
 replace H := zbind H; obtain ⟨t19, ht19, H⟩ := H
 go_upto_if 18 with ((with_reducible refine gd 17 rfl ?_); refine ev_cl HS (impl_StoreOk.calls ht19.out (HS.rd 3 rfl) m8 (HS.rd 9 rfl) m16 (HS.rd 5 rfl) m10 (HS.keepc hgM)) Tryz.func14 ?_; clear HS; intro wt19 HS F)
 replace H := zifb H; rcases H with ⟨c21, H⟩ | ⟨c21, H⟩
 case inl =>
  subst c21
  (try simp only [dcn, dcu, dcf])
  obtain ⟨rfl, rfl⟩ := zsome2 H
  go_wp2_with ((with_reducible refine gate_store (p := 4) rfl ?_); refine ev_st 2 0 HS (seg := [.slice B8 t7.f0.length d8, .slice B16 y16.length d16, .slice B10 t7.f2.length d10]) ?_; clear HS; intro w22 HS F)
  exact bodyPost_ret (results_list (rs := [.cell 4 33, .tmp 5]) rfl (by simp) (.cell _ _ _ _ _ rfl (HS.boxAt (i := 2) rfl) Tryz.underlying33 rfl (by kernel_rfl) (.tmp .nil))) rfl ⟨_, _, _, rfl, HS.pick [3, 9, 5] (by decide) (by rfl)⟩
 subst c21
 (try simp only [dcn, dcu, dcf])
 replace H := zbind H; obtain ⟨t24, ht24, H⟩ := H
 obtain ⟨rfl, rfl⟩ := zsome2 H
 go_wp2_with (first | ((with_reducible refine gd 20 rfl ?_); refine ev_cl3 HS (impl_copyStore.calls ht24.out (HS.ro gp0) lp0 (HS.ro gp1) lp1 (HS.ro gp2) lp2) Tryz.func108 ?_; clear HS; intro v25 v26 v27 wt24 HS F; obtain ⟨B25, d25, rfl, m25⟩ := HS.form 10 rfl; obtain ⟨B26, d26, rfl, m26⟩ := HS.form 11 rfl; obtain ⟨B27, d27, rfl, m27⟩ := HS.form 12 rfl) | ((with_reducible refine gate_store (p := 4) rfl ?_); refine ev_st 2 0 HS (seg := [.slice B25 t24.f0.length d25, .slice B26 t24.f1.length d26, .slice B27 t24.f2.length d27]) ?_; clear HS; intro w29 HS F))
 exact bodyPost_ret (results_list (rs := [.cell 4 33, .tmp 5]) rfl (by simp) (.cell _ _ _ _ _ rfl (HS.boxAt (i := 2) rfl) Tryz.underlying33 rfl (by kernel_rfl) (.tmp .nil))) rfl ⟨_, _, _, rfl, HS.pick [10, 11, 12] (by decide) (by rfl)⟩
def impl_LearnCrl.f (k : Nat) (a0 : S46) (a1 : S81) : Option (S46 × Bool) := ((impl_copyServer.f k a0).bind fun t7 => ((impl_AddCrl.f k a0.f0 a1).bind fun t18 => (if t18.2 = true then (some ((⟨(⟨t18.1.f0, t18.1.f1, t18.1.f2⟩ : S33), t7.f1, t7.f2, t7.f3, t7.f4, ([] : List S205)⟩ : S46), true)) else (some ((⟨(⟨t7.f0.f0, t7.f0.f1, t7.f0.f2⟩ : S33), t7.f1, t7.f2, t7.f3, t7.f4, t7.f5⟩ : S46), false)))))
theorem impl_LearnCrl.calls {k : Nat} {a0 : S46} {a1 : S81} {Ap0 Ap1 Ap2 Ap3 Ap4 Ap5 : Option Addr} {np0 cp0 np1 cp1 np2 cp2 np3 cp3 np4 cp4 np5 cp5 : Nat} {mG : Int} {r1 : S46} {r2 : Bool} {w : World} (h : impl_LearnCrl.f k a0 a1 = some (r1, r2)) (gp0 : k91.C w Ap0 np0 a0.f0.f0) (lp0 : np0 ≤ cp0) (gp1 : k81.C w Ap1 np1 a0.f0.f1) (lp1 : np1 ≤ cp1) (gp2 : k115.C w Ap2 np2 a0.f0.f2) (lp2 : np2 ≤ cp2) (gp3 : k202.C w Ap3 np3 a0.f1) (lp3 : np3 ≤ cp3) (gp4 : k205.C w Ap4 np4 a0.f5) (lp4 : np4 ≤ cp4) (gp5 : k238.C w Ap5 np5 a1.f5) (lp5 : np5 ≤ cp5) (hgM : w.cell? ⟨0, 0, none⟩ = some (.int .i64 mG)) :
    Calls Tryz.prog 46 #[.agg #[.slice Ap0 np0 cp0, .slice Ap1 np1 cp1, .slice Ap2 np2 cp2, .slice Ap3 np3 cp3, .int .i64 a0.f2, .int .i64 a0.f3, .int .i64 a0.f4, .slice Ap4 np4 cp4], .agg #[.string a1.f0, .int .i64 a1.f1, .int .i64 a1.f2, .int .i64 a1.f3, .int .i64 a1.f4, .slice Ap5 np5 cp5, .string a1.f6]] w (fun e w' => ∃ v0_ v1_ v2_ v3_ v4_ : Value, e = .returned (.tuple #[.agg #[v0_, v1_, v2_, v3_, .int .i64 r1.f2, .int .i64 r1.f3, .int .i64 r1.f4, v4_], .bool r2]) ∧ Hp noFP w w' [.own (Zd.slice 91 q91) r1.f0.f0 [v0_], .own (Zd.slice 81 q81) r1.f0.f1 [v1_], .own (Zd.slice 115 q115) r1.f0.f2 [v2_], .own (Zd.slice 202 q202) r1.f1 [v3_], .own (Zd.slice 205 q205) r1.f5 [v4_]]) := by
 obtain rfl := C_len gp0
 obtain rfl := C_len gp1
 obtain rfl := C_len gp2
 obtain rfl := C_len gp3
 obtain rfl := C_len gp4
 obtain rfl := C_len gp5
 have HS := Hp.start w
 have H := Aside0.mk h
 clear h
 unfold impl_LearnCrl.f at H
 go_enter Tryz.func46, Tryz.ntmps46
 replace H := zbind H; obtain ⟨t7, ht7, H⟩ := H
 replace H := zbind H; obtain ⟨t18, ht18, H⟩ := H
 go_upto_if 18 with (first | ((with_reducible refine gd 2 rfl ?_); refine ev_bx HS ?_; clear HS; intro g2 w2 HS F) | ((with_reducible refine gd 3 rfl ?_); refine ev_bx HS ?_; clear HS; intro g3 w3 HS F) | ((with_reducible refine gd 4 rfl ?_); refine ev_bx HS ?_; clear HS; intro g4 w4 HS F) | ((with_reducible refine gd 10 rfl ?_); refine ev_cl5 HS (impl_copyServer.calls ht7.out (HS.ro gp0) lp0 (HS.ro gp1) lp1 (HS.ro gp2) lp2 (HS.ro gp3) lp3 (HS.ro gp4) lp4) Tryz.func128 ?_; clear HS; intro v8 v9 v10 v11 v12 wt7 HS F; obtain ⟨B8, d8, rfl, m8⟩ := HS.form 3 rfl; obtain ⟨B9, d9, rfl, m9⟩ := HS.form 4 rfl; obtain ⟨B10, d10, rfl, m10⟩ := HS.form 5 rfl; obtain ⟨B11, d11, rfl, m11⟩ := HS.form 6 rfl; obtain ⟨B12, d12, rfl, m12⟩ := HS.form 7 rfl) | ((with_reducible refine gd 6 rfl ?_); refine ev_bx HS ?_; clear HS; intro g6 w6 HS F) | ((with_reducible refine gate_store (p := 6) rfl ?_); refine ev_st 8 0 HS (seg := [.slice B8 t7.f0.f0.length d8, .slice B9 t7.f0.f1.length d9, .slice B10 t7.f0.f2.length d10, .slice B11 t7.f1.length d11, .int .i64 t7.f2, .int .i64 t7.f3, .int .i64 t7.f4, .slice B12 t7.f5.length d12]) ?_; clear HS; intro w16 HS F) | ((with_reducible refine gd 15 rfl ?_); refine ev_cl3 HS (impl_AddCrl.calls ht18.out (HS.ro gp0) lp0 (HS.ro gp1) lp1 (HS.ro gp2) lp2 (HS.ro gp5) lp5 (HS.keepc hgM)) Tryz.func29 ?_; clear HS; intro v19 v20 v21 wt18 HS F; obtain ⟨B19, d19, rfl, m19⟩ := HS.form 9 rfl; obtain ⟨B20, d20, rfl, m20⟩ := HS.form 10 rfl; obtain ⟨B21, d21, rfl, m21⟩ := HS.form 11 rfl) | ((with_reducible refine gd 7 rfl ?_); refine ev_bx HS ?_; clear HS; intro g7 w7 HS F) | ((with_reducible refine gate_store (p := 7) rfl ?_); refine ev_st 12 0 HS (seg := [.slice B19 t18.1.f0.length d19, .slice B20 t18.1.f1.length d20, .slice B21 t18.1.f2.length d21]) ?_; clear HS; intro w25 HS F))
 replace H := znifb H; rcases H with ⟨c27, H⟩ | ⟨c27, H⟩
 case inl =>
  (try simp only [c27, dcn])
  obtain ⟨rfl, rfl⟩ := zsome2 H
  go_wp2_with ((with_reducible refine gate_store (p := 4) rfl ?_); refine ev_st 2 0 HS (seg := [.slice B8 t7.f0.f0.length d8, .slice B9 t7.f0.f1.length d9, .slice B10 t7.f0.f2.length d10, .slice B11 t7.f1.length d11, .int .i64 t7.f2, .int .i64 t7.f3, .int .i64 t7.f4, .slice B12 t7.f5.length d12]) ?_; clear HS; intro w34 HS F)
  exact bodyPost_ret (results_list (rs := [.cell 4 46, .tmp 5]) rfl (by simp) (.cell _ _ _ _ _ rfl (HS.boxAt (i := 2) rfl) Tryz.underlying46 rfl (by kernel_rfl) (.tmp .nil))) rfl ⟨_, _, _, _, _, rfl, HS.pick [3, 4, 5, 6, 7] (by decide) (by rfl)⟩
 (try simp only [c27, dcn])
 obtain ⟨rfl, rfl⟩ := zsome2 H
 go_wp2_with (first | ((with_reducible refine gate_store (p := 20) rfl ?_); refine ev_st 8 0 HS (seg := [.slice B19 t18.1.f0.length d19, .slice B20 t18.1.f1.length d20, .slice B21 t18.1.f2.length d21]) ?_; clear HS; intro w28 HS F) | ((with_reducible refine gate_store (p := 21) rfl ?_); refine ev_st 8 7 HS (seg := [.slice none 0 0]) ?_; clear HS; intro w30 HS F) | ((with_reducible refine gate_store (p := 4) rfl ?_); refine ev_st 2 0 HS (seg := [.slice B19 t18.1.f0.length d19, .slice B20 t18.1.f1.length d20, .slice B21 t18.1.f2.length d21, .slice B11 t7.f1.length d11, .int .i64 t7.f2, .int .i64 t7.f3, .int .i64 t7.f4, .slice none 0 0]) ?_; clear HS; intro w32 HS F))
 replace HS := HS.nil 205 q205
 exact bodyPost_ret (results_list (rs := [.cell 4 46, .tmp 5]) rfl (by simp) (.cell _ _ _ _ _ rfl (HS.boxAt (i := 2) rfl) Tryz.underlying46 rfl (by kernel_rfl) (.tmp .nil))) rfl ⟨_, _, _, _, _, rfl, HS.pick [9, 10, 11, 6, 13] (by decide) (by rfl)⟩
def laws_markIntS.l0 : Nat → (List Int) → Int → Int → (List Int) → Option (Int × (List Int))
  | 0, _, _, _, _ => none
  | k + 1, l19, x21, x22, a0 => (if x22 < (a0.length : Int) then (if 0 ≤ x22 then (if x22 < (a0.length : Int) then (laws_markIntS.l0 k (l19.set (x22).toNat x21) (wrap64 (x21 + 1)) (wrap64 (x22 + 1)) a0) else none) else none) else (some (x21, l19)))
def laws_markIntS.f (k : Nat) (a0 : (List Int)) (a1 : Int) : Option (Int × (List Int)) := (laws_markIntS.l0 k a0 a1 0 a0)
theorem laws_markIntS.calls {k : Nat} {a0 : (List Int)} {a1 : Int} {A : FP} {vp0 : Value} {r1 : Int} {r2 : (List Int)} {w : World} (h : laws_markIntS.f k a0 a1 = some (r1, r2)) (HS : Hp A w w [.own (Zd.slice 3 (Zd.int .i64)) a0 [vp0]]) :
    Calls Tryz.prog 120 #[vp0, .int .i64 a1] w (fun e w' => e = .returned (.int .i64 r1) ∧ Hp A w w' [.own (Zd.slice 3 (Zd.int .i64)) r2 [vp0]]) := by
 obtain ⟨B1, d1, rfl, m1⟩ := HS.form 0 rfl
 have H := Aside0.mk h
 clear h
 unfold laws_markIntS.f at H
 go_enter Tryz.func120, Tryz.ntmps120
 go_wp2
 go_loopg [1, 5] k (fun kq v_1 v_5 w' => ∃ (l19 : List Int) (x21 : Int) (x22 : Int), v_1 = .int .i64 x21 ∧ v_5 = .int .i64 x22 ∧ Aside0 (laws_markIntS.l0 kq l19 x21 x22 a0 = some (r1, r2)) ∧ Aside0 (kq ≤ k) ∧ Hp A w w' [.own (Zd.slice 3 (Zd.int .i64)) l19 [.slice B1 a0.length d1]])
 case atStart => exact ⟨_, _, _, rfl, rfl, H, ⟨Nat.le_refl _⟩, HS⟩
 case round =>
  clear HS H; (try clear F)
  obtain ⟨l19, x21, x22, rfl, rfl, H, HKk18, HS⟩ := hrel
  cases gk with
  | zero => exact absurd H.out (by simp [laws_markIntS.l0])
  | succ k18 =>
   simp only [laws_markIntS.l0] at H
   replace H := znif H; rcases H with ⟨c24, H⟩ | ⟨c24, H⟩
   case inl =>
    obtain ⟨rfl, rfl⟩ := zsome2 H
    go_wp2
    go_ret
    exact ⟨rfl, HS.pick [0] (by decide) (by rfl)⟩
   replace H := zgo H; obtain ⟨c25, H⟩ := H
   replace H := zgo H; obtain ⟨c26, H⟩ := H
   obtain ⟨ad27, rfl, e27_0⟩ := Kd.at_int (HS.rd 0 rfl) x22 (of_eq_true c25) (of_eq_true c26)
   go_wp2_with ((with_reducible refine gate_store (p := 15) rfl ?_); refine ev_set rfl (Zd.int .i64) 0 [] x22 x21 HS (seg := [.int .i64 x21]) rfl (by decide) rfl rfl rfl (by first | rfl | exact (Nat.mul_one _).symm) rfl rfl (by kernel_rfl) (by simp [Value.oneCell']) ⟨of_eq_true c25, of_eq_true c26⟩ rfl (made_flat (fun _ => rfl)) ?_; clear HS; intro w28 HS; (try simp only [hpn, hpm] at HS))
   go_roundg k18
   case measure => have := HKk18.out; omega
   case rel => exact ⟨_, _, _, rfl, rfl, H, ⟨by have := HKk18.out; omega⟩, HS.pick [0] (by decide) (by rfl)⟩
def laws_markPlanS.l0 : Nat → (List S202) → Int → Int → (List S202) → Option (Int × (List S202))
  | 0, _, _, _, _ => none
  | k + 1, l44, x46, x47, a0 => (if x47 < (a0.length : Int) then (if 0 ≤ x47 then (if x47 < (a0.length : Int) then (lets (l44.set (x47).toNat (u202_0_3 (rd_T202 l44 x47) x46)) fun y54 => ((laws_markIntS.f k ((rd_T202 y54 x47).f1) (wrap64 (x46 + 1))).bind fun t57 => (lets (y54.set (x47).toNat (u202_1_52 (rd_T202 y54 x47) t57.2)) fun y58 => (lets (y58.set (x47).toNat (u202_2_3 (rd_T202 y58 x47) t57.1)) fun y62 => ((laws_markIntS.f k ((rd_T202 y62 x47).f2.f1) (wrap64 (t57.1 + 1))).bind fun t65 => (lets (y62.set (x47).toNat (u202_3_52 (rd_T202 y62 x47) t65.2)) fun y66 => (lets (y66.set (x47).toNat (u202_4_4 (rd_T202 y66 x47) ((Int.tmod t65.1 3) == 0))) fun y70 => (lets (y70.set (x47).toNat (u202_5_4 (rd_T202 y70 x47) ((Int.tmod (wrap64 (t65.1 + 1)) 3) == 0))) fun y74 => (lets (y74.set (x47).toNat (u202_6_3 (rd_T202 y74 x47) (wrap64 ((wrap64 (t65.1 + 1)) + 1)))) fun y78 => (laws_markPlanS.l0 k y78 (wrap64 ((wrap64 ((wrap64 (t65.1 + 1)) + 1)) + 1)) (wrap64 (x47 + 1)) a0)))))))))) else none) else none) else (some (x46, l44)))
def laws_markPlanS.f (k : Nat) (a0 : (List S202)) (a1 : Int) : Option (Int × (List S202)) := (laws_markPlanS.l0 k a0 a1 0 a0)
theorem laws_markPlanS.calls {k : Nat} {a0 : (List S202)} {a1 : Int} {A : FP} {vp0 : Value} {r1 : Int} {r2 : (List S202)} {w : World} (h : laws_markPlanS.f k a0 a1 = some (r1, r2)) (HS : Hp A w w [.own (Zd.slice 202 q202) a0 [vp0]]) :
    Calls Tryz.prog 129 #[vp0, .int .i64 a1] w (fun e w' => e = .returned (.int .i64 r1) ∧ Hp A w w' [.own (Zd.slice 202 q202) r2 [vp0]]) := by
 obtain ⟨B1, d1, rfl, m1⟩ := HS.form 0 rfl
 have H := Aside0.mk h
 clear h
 unfold laws_markPlanS.f at H
 go_enter Tryz.func129, Tryz.ntmps129
 go_wp2
 go_loopg [1, 5] k (fun kq v_1 v_5 w' => ∃ (l44 : List S202) (x46 : Int) (x47 : Int), v_1 = .int .i64 x46 ∧ v_5 = .int .i64 x47 ∧ Aside0 (laws_markPlanS.l0 kq l44 x46 x47 a0 = some (r1, r2)) ∧ Aside0 (kq ≤ k) ∧ Hp A w w' [.own (Zd.slice 202 q202) l44 [.slice B1 a0.length d1]])
 case atStart => exact ⟨_, _, _, rfl, rfl, H, ⟨Nat.le_refl _⟩, HS⟩
 case round =>
  clear HS H; (try clear F)
  obtain ⟨l44, x46, x47, rfl, rfl, H, HKk43, HS⟩ := hrel
  cases gk with
  | zero => exact absurd H.out (by simp [laws_markPlanS.l0])
  | succ k43 =>
   simp only [laws_markPlanS.l0] at H
   replace H := znif H; rcases H with ⟨c49, H⟩ | ⟨c49, H⟩
   case inl =>
    obtain ⟨rfl, rfl⟩ := zsome2 H
    go_wp2
    go_ret
    exact ⟨rfl, HS.pick [0] (by decide) (by rfl)⟩
   replace H := zgo H; obtain ⟨c50, H⟩ := H
   replace H := zgo H; obtain ⟨c51, H⟩ := H
   obtain ⟨ad52, B52_1, d52_1, B52_3, d52_3, rfl, e52_0, e52_1, e52_2, e52_3, e52_4, e52_5, e52_6, m52_1, y52_1, m52_3, y52_3⟩ := at_T202 (HS.rd 0 rfl) x47 (of_eq_true c50) (of_eq_true c51)
   replace H := zlets H; obtain ⟨y54, e_y54, H⟩ := H
   replace H := zbind H; obtain ⟨t57, ht57, H⟩ := H
   replace H := zlets H; obtain ⟨y58, e_y58, H⟩ := H
   replace H := zlets H; obtain ⟨y62, e_y62, H⟩ := H
   replace H := zbind H; obtain ⟨t65, ht65, H⟩ := H
   replace H := zlets H; obtain ⟨y66, e_y66, H⟩ := H
   replace H := zlets H; obtain ⟨y70, e_y70, H⟩ := H
   replace H := zlets H; obtain ⟨y74, e_y74, H⟩ := H
   replace H := zlets H; obtain ⟨y78, e_y78, H⟩ := H
   go_wp2_with (first | ((with_reducible refine gate_store (p := 16) rfl ?_); refine ev_sp lens202_0_3 0 [] x47 (rd_T202 l44 x47) x46 HS (ad := ad52) (seg := [.int .i64 x46]) (of_eq_true c50) (of_eq_true c51) (fun hl => rd_T202_get hl) (made_flat (fun _ => rfl)) ?_; clear HS; intro w53 HS; rw [← e_y54.out] at HS; (try simp only [hpn, hpm] at HS); obtain ⟨ad56, B56_1, d56_1, B56_3, d56_3, hq56, e56_0, e56_1, e56_2, e56_3, e56_4, e56_5, e56_6, m56_1, y56_1, m56_3, y56_3⟩ := at_T202 (HS.rd 0 rfl) x47 (of_eq_true c50) (of_eq_true c51); obtain rfl := Option.some.inj hq56) | ((with_reducible refine gd 25 rfl ?_); refine HS.lend_el 0 x47 rfl lens202_1_52 (of_eq_true c50) (of_eq_true c51) e56_1 (by rintro g rfl; simp only [add_plain]; refine congrArg (fun n => (⟨g, n, none⟩ : Addr)) ?_; first | rfl | omega) (fun hl => rd_T202_get hl) (fun A' HL HA HB => ?_); refine ev_lc (laws_markIntS.calls ht57.out HA) (fun _ HQ => HB _ _ _ HQ) Tryz.func120 ?_; clear HS HA HB HL; intro wt57 HS F; rw [← e_y58.out] at HS; (try simp only [hpn, hpm] at HS); obtain ⟨ad60, B60_1, d60_1, B60_3, d60_3, hq60, e60_0, e60_1, e60_2, e60_3, e60_4, e60_5, e60_6, m60_1, y60_1, m60_3, y60_3⟩ := at_T202 (HS.rd 0 rfl) x47 (of_eq_true c50) (of_eq_true c51); obtain rfl := Option.some.inj hq60) | ((with_reducible refine gate_store (p := 31) rfl ?_); refine ev_sp lens202_2_3 0 [] x47 (rd_T202 y58 x47) t57.1 HS (ad := ad52) (seg := [.int .i64 t57.1]) (of_eq_true c50) (of_eq_true c51) (fun hl => rd_T202_get hl) (made_flat (fun _ => rfl)) ?_; clear HS; intro w61 HS; rw [← e_y62.out] at HS; (try simp only [hpn, hpm] at HS); obtain ⟨ad64, B64_1, d64_1, B64_3, d64_3, hq64, e64_0, e64_1, e64_2, e64_3, e64_4, e64_5, e64_6, m64_1, y64_1, m64_3, y64_3⟩ := at_T202 (HS.rd 0 rfl) x47 (of_eq_true c50) (of_eq_true c51); obtain rfl := Option.some.inj hq64) | ((with_reducible refine gd 41 rfl ?_); refine HS.lend_el 0 x47 rfl lens202_3_52 (of_eq_true c50) (of_eq_true c51) e64_3 (by rintro g rfl; simp only [add_plain]; refine congrArg (fun n => (⟨g, n, none⟩ : Addr)) ?_; first | rfl | omega) (fun hl => rd_T202_get hl) (fun A' HL HA HB => ?_); refine ev_lc (laws_markIntS.calls ht65.out HA) (fun _ HQ => HB _ _ _ HQ) Tryz.func120 ?_; clear HS HA HB HL; intro wt65 HS F; rw [← e_y66.out] at HS; (try simp only [hpn, hpm] at HS); obtain ⟨ad68, B68_1, d68_1, B68_3, d68_3, hq68, e68_0, e68_1, e68_2, e68_3, e68_4, e68_5, e68_6, m68_1, y68_1, m68_3, y68_3⟩ := at_T202 (HS.rd 0 rfl) x47 (of_eq_true c50) (of_eq_true c51); obtain rfl := Option.some.inj hq68) | ((with_reducible refine gate_store (p := 49) rfl ?_); refine ev_sp lens202_4_4 0 [] x47 (rd_T202 y66 x47) ((Int.tmod t65.1 3) == 0) HS (ad := ad52) (seg := [.bool ((Int.tmod t65.1 3) == 0)]) (of_eq_true c50) (of_eq_true c51) (fun hl => rd_T202_get hl) (made_flat (fun _ => rfl)) ?_; clear HS; intro w69 HS; rw [← e_y70.out] at HS; (try simp only [hpn, hpm] at HS); obtain ⟨ad72, B72_1, d72_1, B72_3, d72_3, hq72, e72_0, e72_1, e72_2, e72_3, e72_4, e72_5, e72_6, m72_1, y72_1, m72_3, y72_3⟩ := at_T202 (HS.rd 0 rfl) x47 (of_eq_true c50) (of_eq_true c51); obtain rfl := Option.some.inj hq72) | ((with_reducible refine gate_store (p := 59) rfl ?_); refine ev_sp lens202_5_4 0 [] x47 (rd_T202 y70 x47) ((Int.tmod (wrap64 (t65.1 + 1)) 3) == 0) HS (ad := ad52) (seg := [.bool ((Int.tmod (wrap64 (t65.1 + 1)) 3) == 0)]) (of_eq_true c50) (of_eq_true c51) (fun hl => rd_T202_get hl) (made_flat (fun _ => rfl)) ?_; clear HS; intro w73 HS; rw [← e_y74.out] at HS; (try simp only [hpn, hpm] at HS); obtain ⟨ad76, B76_1, d76_1, B76_3, d76_3, hq76, e76_0, e76_1, e76_2, e76_3, e76_4, e76_5, e76_6, m76_1, y76_1, m76_3, y76_3⟩ := at_T202 (HS.rd 0 rfl) x47 (of_eq_true c50) (of_eq_true c51); obtain rfl := Option.some.inj hq76) | ((with_reducible refine gate_store (p := 67) rfl ?_); refine ev_sp lens202_6_3 0 [] x47 (rd_T202 y74 x47) (wrap64 ((wrap64 (t65.1 + 1)) + 1)) HS (ad := ad52) (seg := [.int .i64 (wrap64 ((wrap64 (t65.1 + 1)) + 1))]) (of_eq_true c50) (of_eq_true c51) (fun hl => rd_T202_get hl) (made_flat (fun _ => rfl)) ?_; clear HS; intro w77 HS; rw [← e_y78.out] at HS; (try simp only [hpn, hpm] at HS)))
   go_roundg k43
   case measure => have := HKk43.out; omega
   case rel => exact ⟨_, _, _, rfl, rfl, H, ⟨by have := HKk43.out; omega⟩, HS.pick [0] (by decide) (by rfl)⟩
def laws_markText.l0 : Nat → Int → ByteArray → Option (ByteArray)
  | 0, _, _ => none
  | k + 1, x11, x12 => (if 0 < x11 then (if (strOfNums ([((wrap64 (48 + (Int.tmod x11 10))) % 256)] : List Int)).size + x12.size ≤ 9223372036854775807 then (laws_markText.l0 k (wrap64 (Int.tdiv x11 10)) ((strOfNums ([((wrap64 (48 + (Int.tmod x11 10))) % 256)] : List Int)) ++ x12)) else none) else (if (⟨#[109]⟩ : ByteArray).size + x12.size ≤ 9223372036854775807 then (some ((⟨#[109]⟩ : ByteArray) ++ x12)) else none))
def laws_markText.f (k : Nat) (a0 : Int) : Option (ByteArray) := (if a0 ≤ 0 then (some (⟨#[109, 48]⟩ : ByteArray)) else (laws_markText.l0 k a0 (⟨#[]⟩ : ByteArray)))
theorem laws_markText.calls {k : Nat} {a0 : Int} {r : ByteArray} {w : World} (h : laws_markText.f k a0 = some r) :
    Calls Tryz.prog 180 #[.int .i64 a0] w (fun e w' => e = .returned (.string r) ∧ Hp noFP w w' []) := by
 have HS := Hp.start w
 have H := Aside0.mk h
 clear h
 unfold laws_markText.f at H
 go_enter Tryz.func180, Tryz.ntmps180
 replace H := zif H; rcases H with ⟨c1, H⟩ | ⟨c1, H⟩
 case inl =>
  obtain rfl := zsome H
  go_wp2
  go_ret
  exact HS.pk
 go_wp2
 go_loopg [0, 3] k (fun kq v_0 v_3 w' => ∃ (x11 : Int) (x12 : ByteArray), v_0 = .int .i64 x11 ∧ v_3 = .string x12 ∧ Aside0 (laws_markText.l0 kq x11 x12 = some r) ∧ Aside0 (kq ≤ k) ∧ Hp noFP w w' [])
 case atStart => exact ⟨_, _, rfl, rfl, H, ⟨Nat.le_refl _⟩, HS⟩
 case round =>
  clear HS H; (try clear F)
  obtain ⟨x11, x12, rfl, rfl, H, HKk10, HS⟩ := hrel
  cases gk with
  | zero => exact absurd H.out (by simp [laws_markText.l0])
  | succ k10 =>
   simp only [laws_markText.l0] at H
   replace H := znif H; rcases H with ⟨c14, H⟩ | ⟨c14, H⟩
   case inl =>
    replace H := zgo H; obtain ⟨c18, H⟩ := H
    obtain rfl := zsome H
    go_wp2_with ((with_reducible refine gd 19 rfl ?_); refine ev_val rfl (run_cat rfl rfl rfl (of_eq_true c18)) ?_)
    go_ret
    exact HS.pk
   replace H := zgo H; obtain ⟨c17, H⟩ := H
   go_wp2_with (first | ((with_reducible refine gd 12 rfl ?_); refine ev_li (Zd.int .u8) [] ([((wrap64 (48 + (Int.tmod x11 10))) % 256)] : List Int) ([.int .u8 ((wrap64 (48 + (Int.tmod x11 10))) % 256)] ++ []) HS (MadeL.cons (js1 := []) (c := [.int .u8 ((wrap64 (48 + (Int.tmod x11 10))) % 256)]) rfl (made_flat (fun _ => rfl)) MadeL.nil (by decide)) ?_; clear HS; intro v15 w15 HS F; obtain ⟨B15, d15, rfl, m15⟩ := HS.formn 1 0 rfl rfl) | ((with_reducible refine gd 13 rfl ?_); refine ev_val rfl (run_str rfl rfl Tryz.underlying225 Tryz.underlying5 Tryz.underlying9 (HS.rd 0 rfl)) ?_) | ((with_reducible refine gd 15 rfl ?_); refine ev_val rfl (run_cat rfl rfl rfl (of_eq_true c17)) ?_))
   go_roundg k10
   case measure => have := HKk10.out; omega
   case rel => exact ⟨_, _, rfl, rfl, H, ⟨by have := HKk10.out; omega⟩, HS.pick [] (by decide) (by rfl)⟩
def laws_markKeptS.l0 : Nat → (List S205) → Int → Int → (List S205) → Option (Int × (List S205))
  | 0, _, _, _, _ => none
  | k + 1, l32, x34, x35, a0 => (if x35 < (a0.length : Int) then ((laws_markText.f k x34).bind fun t38 => (if 0 ≤ x35 then (if x35 < (a0.length : Int) then (lets (l32.set (x35).toNat (u205_0_9 (rd_T205 l32 x35) t38)) fun y44 => ((laws_markText.f k (wrap64 (x34 + 1))).bind fun t46 => (lets (y44.set (x35).toNat (u205_1_9 (rd_T205 y44 x35) t46)) fun y50 => (lets (y50.set (x35).toNat (u205_2_3 (rd_T205 y50 x35) (wrap64 ((wrap64 (x34 + 1)) + 1)))) fun y54 => (laws_markKeptS.l0 k y54 (wrap64 ((wrap64 ((wrap64 (x34 + 1)) + 1)) + 1)) (wrap64 (x35 + 1)) a0))))) else none) else none)) else (some (x34, l32)))
def laws_markKeptS.f (k : Nat) (a0 : (List S205)) (a1 : Int) : Option (Int × (List S205)) := (laws_markKeptS.l0 k a0 a1 0 a0)
theorem laws_markKeptS.calls {k : Nat} {a0 : (List S205)} {a1 : Int} {A : FP} {vp0 : Value} {r1 : Int} {r2 : (List S205)} {w : World} (h : laws_markKeptS.f k a0 a1 = some (r1, r2)) (HS : Hp A w w [.own (Zd.slice 205 q205) a0 [vp0]]) :
    Calls Tryz.prog 130 #[vp0, .int .i64 a1] w (fun e w' => e = .returned (.int .i64 r1) ∧ Hp A w w' [.own (Zd.slice 205 q205) r2 [vp0]]) := by
 obtain ⟨B1, d1, rfl, m1⟩ := HS.form 0 rfl
 have H := Aside0.mk h
 clear h
 unfold laws_markKeptS.f at H
 go_enter Tryz.func130, Tryz.ntmps130
 go_wp2
 go_loopg [1, 5] k (fun kq v_1 v_5 w' => ∃ (l32 : List S205) (x34 : Int) (x35 : Int), v_1 = .int .i64 x34 ∧ v_5 = .int .i64 x35 ∧ Aside0 (laws_markKeptS.l0 kq l32 x34 x35 a0 = some (r1, r2)) ∧ Aside0 (kq ≤ k) ∧ Hp A w w' [.own (Zd.slice 205 q205) l32 [.slice B1 a0.length d1]])
 case atStart => exact ⟨_, _, _, rfl, rfl, H, ⟨Nat.le_refl _⟩, HS⟩
 case round =>
  clear HS H; (try clear F)
  obtain ⟨l32, x34, x35, rfl, rfl, H, HKk31, HS⟩ := hrel
  cases gk with
  | zero => exact absurd H.out (by simp [laws_markKeptS.l0])
  | succ k31 =>
   simp only [laws_markKeptS.l0] at H
   replace H := znif H; rcases H with ⟨c37, H⟩ | ⟨c37, H⟩
   case inl =>
    obtain ⟨rfl, rfl⟩ := zsome2 H
    go_wp2
    go_ret
    exact ⟨rfl, HS.pick [0] (by decide) (by rfl)⟩
   replace H := zbind H; obtain ⟨t38, ht38, H⟩ := H
   replace H := zgo H; obtain ⟨c40, H⟩ := H
   replace H := zgo H; obtain ⟨c41, H⟩ := H
   replace H := zlets H; obtain ⟨y44, e_y44, H⟩ := H
   replace H := zbind H; obtain ⟨t46, ht46, H⟩ := H
   replace H := zlets H; obtain ⟨y50, e_y50, H⟩ := H
   replace H := zlets H; obtain ⟨y54, e_y54, H⟩ := H
   go_wp2_with (first | ((with_reducible refine gd 15 rfl ?_); refine ev_cl HS (laws_markText.calls ht38.out) Tryz.func180 ?_; clear HS; intro wt38 HS F; obtain ⟨ad42, rfl, e42_0, e42_1, e42_2⟩ := at_T205 (HS.rd 0 rfl) x35 (of_eq_true c40) (of_eq_true c41)) | ((with_reducible refine gate_store (p := 17) rfl ?_); refine ev_sp lens205_0_9 0 [] x35 (rd_T205 l32 x35) t38 HS (ad := ad42) (seg := [.string t38]) (of_eq_true c40) (of_eq_true c41) (fun hl => rd_T205_get hl) (made_flat (fun _ => rfl)) ?_; clear HS; intro w43 HS; rw [← e_y44.out] at HS; (try simp only [hpn, hpm] at HS)) | ((with_reducible refine gd 23 rfl ?_); refine ev_cl HS (laws_markText.calls ht46.out) Tryz.func180 ?_; clear HS; intro wt46 HS F; obtain ⟨ad48, hq48, e48_0, e48_1, e48_2⟩ := at_T205 (HS.rd 0 rfl) x35 (of_eq_true c40) (of_eq_true c41); obtain rfl := Option.some.inj hq48) | ((with_reducible refine gate_store (p := 25) rfl ?_); refine ev_sp lens205_1_9 0 [] x35 (rd_T205 y44 x35) t46 HS (ad := ad42) (seg := [.string t46]) (of_eq_true c40) (of_eq_true c41) (fun hl => rd_T205_get hl) (made_flat (fun _ => rfl)) ?_; clear HS; intro w49 HS; rw [← e_y50.out] at HS; (try simp only [hpn, hpm] at HS); obtain ⟨ad52, hq52, e52_0, e52_1, e52_2⟩ := at_T205 (HS.rd 0 rfl) x35 (of_eq_true c40) (of_eq_true c41); obtain rfl := Option.some.inj hq52) | ((with_reducible refine gate_store (p := 32) rfl ?_); refine ev_sp lens205_2_3 0 [] x35 (rd_T205 y50 x35) (wrap64 ((wrap64 (x34 + 1)) + 1)) HS (ad := ad42) (seg := [.int .i64 (wrap64 ((wrap64 (x34 + 1)) + 1))]) (of_eq_true c40) (of_eq_true c41) (fun hl => rd_T205_get hl) (made_flat (fun _ => rfl)) ?_; clear HS; intro w53 HS; rw [← e_y54.out] at HS; (try simp only [hpn, hpm] at HS)))
   go_roundg k31
   case measure => have := HKk31.out; omega
   case rel => exact ⟨_, _, _, rfl, rfl, H, ⟨by have := HKk31.out; omega⟩, HS.pick [0] (by decide) (by rfl)⟩
def laws_markStringS.l0 : Nat → (List ByteArray) → Int → Int → (List ByteArray) → Option (Int × (List ByteArray))
  | 0, _, _, _, _ => none
  | k + 1, l21, x23, x24, a0 => (if x24 < (a0.length : Int) then ((laws_markText.f k x23).bind fun t27 => (if 0 ≤ x24 then (if x24 < (a0.length : Int) then (laws_markStringS.l0 k (l21.set (x24).toNat t27) (wrap64 (x23 + 1)) (wrap64 (x24 + 1)) a0) else none) else none)) else (some (x23, l21)))
def laws_markStringS.f (k : Nat) (a0 : (List ByteArray)) (a1 : Int) : Option (Int × (List ByteArray)) := (laws_markStringS.l0 k a0 a1 0 a0)
theorem laws_markStringS.calls {k : Nat} {a0 : (List ByteArray)} {a1 : Int} {A : FP} {vp0 : Value} {r1 : Int} {r2 : (List ByteArray)} {w : World} (h : laws_markStringS.f k a0 a1 = some (r1, r2)) (HS : Hp A w w [.own (Zd.slice 9 Zd.string) a0 [vp0]]) :
    Calls Tryz.prog 121 #[vp0, .int .i64 a1] w (fun e w' => e = .returned (.int .i64 r1) ∧ Hp A w w' [.own (Zd.slice 9 Zd.string) r2 [vp0]]) := by
 obtain ⟨B1, d1, rfl, m1⟩ := HS.form 0 rfl
 have H := Aside0.mk h
 clear h
 unfold laws_markStringS.f at H
 go_enter Tryz.func121, Tryz.ntmps121
 go_wp2
 go_loopg [1, 5] k (fun kq v_1 v_5 w' => ∃ (l21 : List ByteArray) (x23 : Int) (x24 : Int), v_1 = .int .i64 x23 ∧ v_5 = .int .i64 x24 ∧ Aside0 (laws_markStringS.l0 kq l21 x23 x24 a0 = some (r1, r2)) ∧ Aside0 (kq ≤ k) ∧ Hp A w w' [.own (Zd.slice 9 Zd.string) l21 [.slice B1 a0.length d1]])
 case atStart => exact ⟨_, _, _, rfl, rfl, H, ⟨Nat.le_refl _⟩, HS⟩
 case round =>
  clear HS H; (try clear F)
  obtain ⟨l21, x23, x24, rfl, rfl, H, HKk20, HS⟩ := hrel
  cases gk with
  | zero => exact absurd H.out (by simp [laws_markStringS.l0])
  | succ k20 =>
   simp only [laws_markStringS.l0] at H
   replace H := znif H; rcases H with ⟨c26, H⟩ | ⟨c26, H⟩
   case inl =>
    obtain ⟨rfl, rfl⟩ := zsome2 H
    go_wp2
    go_ret
    exact ⟨rfl, HS.pick [0] (by decide) (by rfl)⟩
   replace H := zbind H; obtain ⟨t27, ht27, H⟩ := H
   replace H := zgo H; obtain ⟨c29, H⟩ := H
   replace H := zgo H; obtain ⟨c30, H⟩ := H
   go_wp2_with (first | ((with_reducible refine gd 15 rfl ?_); refine ev_cl HS (laws_markText.calls ht27.out) Tryz.func180 ?_; clear HS; intro wt27 HS F; obtain ⟨ad31, rfl, e31_0⟩ := Kd.at_string (HS.rd 0 rfl) x24 (of_eq_true c29) (of_eq_true c30)) | ((with_reducible refine gate_store (p := 16) rfl ?_); refine ev_set rfl Zd.string 0 [] x24 t27 HS (seg := [.string t27]) rfl (by decide) rfl rfl rfl (by first | rfl | exact (Nat.mul_one _).symm) rfl rfl (by kernel_rfl) (by simp [Value.oneCell']) ⟨of_eq_true c29, of_eq_true c30⟩ rfl (made_flat (fun _ => rfl)) ?_; clear HS; intro w32 HS; (try simp only [hpn, hpm] at HS)))
   go_roundg k20
   case measure => have := HKk20.out; omega
   case rel => exact ⟨_, _, _, rfl, rfl, H, ⟨by have := HKk20.out; omega⟩, HS.pick [0] (by decide) (by rfl)⟩
end Go.Proofs.YtacocpknielofaaGreatDoor.F
