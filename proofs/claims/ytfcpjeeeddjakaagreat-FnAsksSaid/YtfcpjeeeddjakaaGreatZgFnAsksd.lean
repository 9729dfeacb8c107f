/- Functions of the program and of the law, and that their calls do what is written here. -/
import Derived.Test.YtfcpjeeeddjakaaGreatZgFnAsksa
import Derived.Test.YtfcpjeeeddjakaaGreatZgFnAsksb
import Derived.Test.YtfcpjeeeddjakaaGreatZgFnAsksc
namespace Go.Proofs.YtfcpjeeeddjakaaGreat.F
open Go.RowKit YtfcpjeeeddjakaaGreatW.PrintWords YtfcpjeeeddjakaaGreatW.PrintLast YtfcpjeeeddjakaaGreatW.PrintMore Z
attribute [local go_sem] max2_int min2_int max_two min_two max_three min_three max_four min_four
set_option linter.unusedVariables false
set_option linter.unusedSimpArgs false
set_option maxRecDepth 100000
set_option maxHeartbeats 16000000
def spec_PoliciesOk.l0 : Nat → Int → (List Int) → Option (Bool)
  | 0, _, _ => none
  | k + 1, x4, a0 => (if x4 < (a0.length : Int) then (if 0 ≤ x4 then (if x4 < (a0.length : Int) then ((spec_l01In.f (rd a0 x4) 0 99).bind fun t12 => (if t12 = true then (if 0 < x4 then (if 0 ≤ (wrap64 (x4 - 1)) then (if (wrap64 (x4 - 1)) < (a0.length : Int) then (if (rd a0 x4) ≤ (rd a0 (wrap64 (x4 - 1))) then (some false) else (spec_PoliciesOk.l0 k (wrap64 (x4 + 1)) a0)) else none) else none) else (spec_PoliciesOk.l0 k (wrap64 (x4 + 1)) a0)) else (some false))) else none) else none) else (some (decide ((a0.length : Int) ≤ 4))))
def spec_PoliciesOk.f (k : Nat) (a0 : (List Int)) : Option (Bool) := (spec_PoliciesOk.l0 k 0 a0)
def spec_PoliciesOk.T4 : TT := (true, [([], []), ([], []), ([0, 1], [0, 1]), ([2], [2]), ([3], [3]), ([4], [4]), ([5, 4], [5]), ([6], [6]), ([7, 6], [6, 7]), ([8, 6, 6], [6, 8]), ([9], [9]), ([9], [9]), ([11, 9], [9, 11]), ([10, 12, 9], [9, 10, 12]), ([13, 9], [9, 13]), ([9], [9]), ([9], [9]), ([15, 16, 9], [9, 15, 16]), ([17, 9], [9, 17]), ([14, 18, 9], [9, 14, 18]), ([9, 19, 6], [6, 9, 19]), ([6, 20], [6, 20])])
theorem spec_PoliciesOk.tT4 : rtab .any (opsOf Tryz.f91 4) = spec_PoliciesOk.T4 := by kernel_rfl
theorem spec_PoliciesOk.calls {k : Nat} {a0 : (List Int)} {Ap0 : Option Addr} {np0 cp0 : Nat} {r : Bool} {w : World} (h : spec_PoliciesOk.f k a0 = some r) (gp0 : (Kd.int .i64).C w Ap0 np0 a0) (lp0 : np0 ≤ cp0) :
    Calls Tryz.prog 91 #[.slice Ap0 np0 cp0] w (fun e w' => e = .returned (.bool r) ∧ Hp noFP w w' []) := by
 obtain rfl := C_len gp0
 have HS := Hp.start w
 have H := Aside0.mk h
 clear h
 unfold spec_PoliciesOk.f at H
 go_enter Tryz.func91, Tryz.ntmps91
 go_wp2
 go_loopg [3] k (fun kq v_3 w' => ∃ (x4 : Int), v_3 = .int .i64 x4 ∧ Aside0 (spec_PoliciesOk.l0 kq x4 a0 = some r) ∧ Aside0 (kq ≤ k) ∧ Hp noFP w w' [])
 case atStart => exact ⟨_, rfl, H, ⟨Nat.le_refl _⟩, HS⟩
 case round =>
  clear HS H; (try clear F)
  obtain ⟨x4, rfl, H, HKk3, HS⟩ := hrel
  cases gk with
  | zero => exact absurd H.out (by simp [spec_PoliciesOk.l0])
  | succ k3 =>
   simp only [spec_PoliciesOk.l0] at H
   replace H := znif H; rcases H with ⟨c6, H⟩ | ⟨c6, H⟩
   case inl =>
    obtain rfl := zsome H
    go_wp2
    go_ret
    exact HS.pk
   (try go_wp2)
   replace H := zgo H; obtain ⟨c5, H⟩ := H
   replace H := zgo H; obtain ⟨c7, H⟩ := H
   obtain ⟨ad9, rfl, e9_0⟩ := Kd.at_int gp0 x4 (of_eq_true c5) (of_eq_true c7)
   replace H := zbind H; obtain ⟨t12, ht12, H⟩ := H
   replace H := znifb H; rcases H with ⟨c14, H⟩ | ⟨c14, H⟩
   case inl =>
    subst c14
    refine dr_start [] HS #[false, false, false, false, false, false, false, false, false, false, false, false, false, false, false, false, false, false, false, false, false, false] (by kernel_rfl) rfl rfl spec_PoliciesOk.tT4 (fun w13 HT HS HH => ?_)
    (try clear F)
    refine drq_of [(0, some 10), (1, some 11), (2, some 12)] ?_
    repeat (refine drp HT ?_)
    refine drq_end ?_
    refine dr_take 3 (some 13) HT HH (v := ?_) (a' := ?_) rfl rfl (by kernel_rfl) (fun _ _ _ h => h) (.inl ⟨by rfl, ?_⟩) ?_ ?_
    rotate_left
    · rintro w' ⟨rs', HS'⟩; have e9_0 := HS'.keepc e9_0; go_simp; with_reducible rfl
    rotate_left
    · simp only [Act.put, ptn]; rfl
    refine dr1 4 HT fun K hK => ?_
    refine go_cl HS (spec_l01In.calls ht12.out) Tryz.func54 ?_; clear HS; intro wt12 HS F
    refine nrm 14 hK ⟨_, HS⟩ (fun HH => ?_); clear hK K
    refine drq_of [(5, some 15), (6, some 16), (7, some 17), (8, some 18), (9, some 19), (10, some 20), (11, some 21), (12, some 22), (13, some 23), (14, some 24), (15, some 25), (16, some 26), (17, some 27), (18, some 28), (19, some 29), (20, some 30), (21, some 31)] ?_
    repeat (first | refine drp HT ?_ | (refine drq_pure HT (v := undef) (a' := ?_) rfl rfl (by kernel_rfl) (fun _ _ _ h => h) (.inr ⟨by rfl, rfl⟩) ?_ ?_; rotate_left; (simp only [Act.put, ptn]; rfl)))
    refine drq_end ?_
    refine done_ (done_of HT.out (by kernel_rfl)) ?_
    obtain rfl := zsome H
    go_wp2
    go_ret
    exact HS.pk
   subst c14
   replace H := znif H; rcases H with ⟨c15, H⟩ | ⟨c15, H⟩
   case inl =>
    refine dr_start [] HS #[false, false, false, false, false, false, false, false, false, false, false, false, false, false, false, false, false, false, false, false, false, false] (by kernel_rfl) rfl rfl spec_PoliciesOk.tT4 (fun w11 HT HS HH => ?_)
    (try clear F)
    refine drq_of [(0, some 10), (1, some 11), (2, some 12)] ?_
    repeat (refine drp HT ?_)
    refine drq_end ?_
    refine dr_take 3 (some 13) HT HH (v := ?_) (a' := ?_) rfl rfl (by kernel_rfl) (fun _ _ _ h => h) (.inl ⟨by rfl, ?_⟩) ?_ ?_
    rotate_left
    · rintro w' ⟨rs', HS'⟩; have e9_0 := HS'.keepc e9_0; go_simp; with_reducible rfl
    rotate_left
    · simp only [Act.put, ptn]; rfl
    refine dr1 4 HT fun K hK => ?_
    refine go_cl HS (spec_l01In.calls ht12.out) Tryz.func54 ?_; clear HS; intro wt12 HS F
    refine nrm 14 hK ⟨_, HS⟩ (fun HH => ?_); clear hK K
    refine drq_of [(5, some 15), (6, some 16), (7, some 17), (8, some 18), (9, some 19), (10, some 20), (11, some 21), (12, some 22), (13, some 23), (14, some 24), (15, some 25), (16, some 26), (17, some 27), (18, some 28), (19, some 29), (20, some 30), (21, some 31)] ?_
    repeat (first | refine drp HT ?_ | (refine drq_pure HT (v := undef) (a' := ?_) rfl rfl (by kernel_rfl) (fun _ _ _ h => h) (.inr ⟨by rfl, rfl⟩) ?_ ?_; rotate_left; (simp only [Act.put, ptn]; rfl)))
    refine drq_end ?_
    refine done_ (done_of HT.out (by kernel_rfl)) ?_
    go_wp2
    go_roundg k3
    case measure => have := HKk3.out; omega
    case rel => exact ⟨_, rfl, H, ⟨by have := HKk3.out; omega⟩, HS.pick [] (by decide) (by rfl)⟩
   replace H := zgo H; obtain ⟨c16, H⟩ := H
   replace H := zgo H; obtain ⟨c17, H⟩ := H
   obtain ⟨ad18, hq18, e18_0⟩ := Kd.at_int gp0 (wrap64 (x4 - 1)) (of_eq_true c16) (of_eq_true c17); obtain rfl := Option.some.inj hq18
   refine dr_start [] HS #[false, false, false, false, false, false, false, false, false, false, false, false, false, false, false, false, false, false, false, false, false, false] (by kernel_rfl) rfl rfl spec_PoliciesOk.tT4 (fun w8 HT HS HH => ?_)
   (try clear F)
   refine drq_of [(0, some 10), (1, some 11), (2, some 12)] ?_
   repeat (refine drp HT ?_)
   refine drq_end ?_
   refine dr_take 3 (some 13) HT HH (v := ?_) (a' := ?_) rfl rfl (by kernel_rfl) (fun _ _ _ h => h) (.inl ⟨by rfl, ?_⟩) ?_ ?_
   rotate_left
   · rintro w' ⟨rs', HS'⟩; have e9_0 := HS'.keepc e9_0; go_simp; with_reducible rfl
   rotate_left
   · simp only [Act.put, ptn]; rfl
   refine dr1 4 HT fun K hK => ?_
   refine go_cl HS (spec_l01In.calls ht12.out) Tryz.func54 ?_; clear HS; intro wt12 HS F
   refine nrm 14 hK ⟨_, HS⟩ (fun HH => ?_); clear hK K
   refine drq_of [(5, some 15), (6, some 16), (7, some 17), (8, some 18), (9, some 19), (10, some 20), (11, some 21), (12, some 22), (13, some 23)] ?_
   repeat (refine drp HT ?_)
   refine drq_end ?_
   refine dr_take 14 (some 24) HT HH (v := ?_) (a' := ?_) rfl rfl (by kernel_rfl) (fun _ _ _ h => h) (.inl ⟨by rfl, ?_⟩) ?_ ?_
   rotate_left
   · rintro w' ⟨rs', HS'⟩; have e18_0 := HS'.keepc e18_0; go_simp; with_reducible rfl
   rotate_left
   · simp only [Act.put, ptn]; rfl
   refine drq_of [(15, some 25), (16, some 26), (17, some 27)] ?_
   repeat (refine drp HT ?_)
   refine drq_end ?_
   refine dr_take 18 (some 28) HT HH (v := ?_) (a' := ?_) rfl rfl (by kernel_rfl) (fun _ _ _ h => h) (.inl ⟨by rfl, ?_⟩) ?_ ?_
   rotate_left
   · rintro w' ⟨rs', HS'⟩; have e9_0 := HS'.keepc e9_0; go_simp; with_reducible rfl
   rotate_left
   · simp only [Act.put, ptn]; rfl
   refine drq_of [(19, some 29), (20, some 30), (21, some 31)] ?_
   repeat (refine drp HT ?_)
   refine drq_end ?_
   refine done_ (done_of HT.out (by kernel_rfl)) ?_
   replace H := zif H; rcases H with ⟨c10, H⟩ | ⟨c10, H⟩
   case inl =>
    (try simp only [c10, dcn])
    obtain rfl := zsome H
    go_wp2
    go_ret
    exact HS.pk
   (try simp only [c10, dcn])
   go_wp2
   go_roundg k3
   case measure => have := HKk3.out; omega
   case rel => exact ⟨_, rfl, H, ⟨by have := HKk3.out; omega⟩, HS.pick [] (by decide) (by rfl)⟩
def spec_CertOk.f (k : Nat) (a0 : S125) : Option (Bool) := ((spec_l09Num.f a0.f0).bind fun t3 => (if t3 = true then ((spec_l09Num.f a0.f3).bind fun t6 => (if t6 = true then ((spec_l09Num.f a0.f4).bind fun t9 => (if t9 = true then ((spec_NameOk.f k a0.f1).bind fun t12 => (if t12 = true then ((spec_NameOk.f k a0.f2).bind fun t15 => (if t15 = true then (if (a0.f5.size : Int) = 15 then ((spec_l01In.f a0.f7 0 99).bind fun t19 => (if t19 = true then ((spec_l01In.f a0.f8 0 7).bind fun t22 => (if t22 = true then ((spec_PoliciesOk.f k a0.f9).bind fun t25 => (if t25 = true then ((spec_NamesOk.f k a0.f10).bind fun t28 => (if t28 = true then ((spec_NamesOk.f k a0.f11).bind fun t31 => (if t31 = true then (some ((a0.f12.size : Int) == 15)) else (some false))) else (some false))) else (some false))) else (some false))) else (some false))) else (some false)) else (some false))) else (some false))) else (some false))) else (some false))) else (some false)))
theorem spec_CertOk.calls {k : Nat} {a0 : S125} {Ap0 Ap1 Ap2 : Option Addr} {np0 cp0 np1 cp1 np2 cp2 : Nat} {r : Bool} {w : World} (h : spec_CertOk.f k a0 = some r) (gp0 : (Kd.int .i64).C w Ap0 np0 a0.f9) (lp0 : np0 ≤ cp0) (gp1 : Kd.string.C w Ap1 np1 a0.f10) (lp1 : np1 ≤ cp1) (gp2 : Kd.string.C w Ap2 np2 a0.f11) (lp2 : np2 ≤ cp2) :
    Calls Tryz.prog 122 #[.agg #[.int .i64 a0.f0, .string a0.f1, .string a0.f2, .int .i64 a0.f3, .int .i64 a0.f4, .string a0.f5, .bool a0.f6, .int .i64 a0.f7, .int .i64 a0.f8, .slice Ap0 np0 cp0, .slice Ap1 np1 cp1, .slice Ap2 np2 cp2, .string a0.f12]] w (fun e w' => e = .returned (.bool r) ∧ Hp noFP w w' []) := by
 obtain rfl := C_len gp0
 obtain rfl := C_len gp1
 obtain rfl := C_len gp2
 have HS := Hp.start w
 have H := Aside0.mk h
 clear h
 unfold spec_CertOk.f at H
 go_enter Tryz.func122, Tryz.ntmps122
 replace H := zbind H; obtain ⟨t3, ht3, H⟩ := H
 replace H := znifb H; rcases H with ⟨c5, H⟩ | ⟨c5, H⟩
 case inl =>
  subst c5
  obtain rfl := zsome H
  go_wp2_with (first | ((with_reducible refine gd 1 rfl ?_); refine ev_bx HS ?_; clear HS; intro g1 w1 HS F) | ((with_reducible refine gd 5 rfl ?_); refine ev_cl HS (spec_l09Num.calls ht3.out) Tryz.func55 ?_; clear HS; intro wt3 HS F))
  go_ret
  exact HS.pk
 subst c5
 replace H := zbind H; obtain ⟨t6, ht6, H⟩ := H
 replace H := znifb H; rcases H with ⟨c8, H⟩ | ⟨c8, H⟩
 case inl =>
  subst c8
  obtain rfl := zsome H
  go_wp2_with (first | ((with_reducible refine gd 1 rfl ?_); refine ev_bx HS ?_; clear HS; intro g1 w1 HS F) | ((with_reducible refine gd 5 rfl ?_); refine ev_cl HS (spec_l09Num.calls ht3.out) Tryz.func55 ?_; clear HS; intro wt3 HS F) | ((with_reducible refine gd 9 rfl ?_); refine gg ?_; refine ev_cl HS (spec_l09Num.calls ht6.out) Tryz.func55 ?_; clear HS; intro wt6 HS F))
  go_ret
  exact HS.pk
 subst c8
 replace H := zbind H; obtain ⟨t9, ht9, H⟩ := H
 replace H := znifb H; rcases H with ⟨c11, H⟩ | ⟨c11, H⟩
 case inl =>
  subst c11
  obtain rfl := zsome H
  go_wp2_with (first | ((with_reducible refine gd 1 rfl ?_); refine ev_bx HS ?_; clear HS; intro g1 w1 HS F) | ((with_reducible refine gd 5 rfl ?_); refine ev_cl HS (spec_l09Num.calls ht3.out) Tryz.func55 ?_; clear HS; intro wt3 HS F) | ((with_reducible refine gd 9 rfl ?_); refine gg ?_; refine ev_cl HS (spec_l09Num.calls ht6.out) Tryz.func55 ?_; clear HS; intro wt6 HS F) | ((with_reducible refine gd 14 rfl ?_); refine gg ?_; refine ev_cl HS (spec_l09Num.calls ht9.out) Tryz.func55 ?_; clear HS; intro wt9 HS F))
  go_ret
  exact HS.pk
 subst c11
 replace H := zbind H; obtain ⟨t12, ht12, H⟩ := H
 replace H := znifb H; rcases H with ⟨c14, H⟩ | ⟨c14, H⟩
 case inl =>
  subst c14
  obtain rfl := zsome H
  go_wp2_with (first | ((with_reducible refine gd 1 rfl ?_); refine ev_bx HS ?_; clear HS; intro g1 w1 HS F) | ((with_reducible refine gd 5 rfl ?_); refine ev_cl HS (spec_l09Num.calls ht3.out) Tryz.func55 ?_; clear HS; intro wt3 HS F) | ((with_reducible refine gd 9 rfl ?_); refine gg ?_; refine ev_cl HS (spec_l09Num.calls ht6.out) Tryz.func55 ?_; clear HS; intro wt6 HS F) | ((with_reducible refine gd 14 rfl ?_); refine gg ?_; refine ev_cl HS (spec_l09Num.calls ht9.out) Tryz.func55 ?_; clear HS; intro wt9 HS F) | ((with_reducible refine gd 19 rfl ?_); refine gg ?_; refine ev_cl HS (spec_NameOk.calls ht12.out) Tryz.func136 ?_; clear HS; intro wt12 HS F))
  go_ret
  exact HS.pk
 subst c14
 replace H := zbind H; obtain ⟨t15, ht15, H⟩ := H
 replace H := znifb H; rcases H with ⟨c17, H⟩ | ⟨c17, H⟩
 case inl =>
  subst c17
  obtain rfl := zsome H
  go_wp2_with (first | ((with_reducible refine gd 1 rfl ?_); refine ev_bx HS ?_; clear HS; intro g1 w1 HS F) | ((with_reducible refine gd 5 rfl ?_); refine ev_cl HS (spec_l09Num.calls ht3.out) Tryz.func55 ?_; clear HS; intro wt3 HS F) | ((with_reducible refine gd 9 rfl ?_); refine gg ?_; refine ev_cl HS (spec_l09Num.calls ht6.out) Tryz.func55 ?_; clear HS; intro wt6 HS F) | ((with_reducible refine gd 14 rfl ?_); refine gg ?_; refine ev_cl HS (spec_l09Num.calls ht9.out) Tryz.func55 ?_; clear HS; intro wt9 HS F) | ((with_reducible refine gd 19 rfl ?_); refine gg ?_; refine ev_cl HS (spec_NameOk.calls ht12.out) Tryz.func136 ?_; clear HS; intro wt12 HS F) | ((with_reducible refine gd 24 rfl ?_); refine gg ?_; refine ev_cl HS (spec_NameOk.calls ht15.out) Tryz.func136 ?_; clear HS; intro wt15 HS F))
  go_ret
  exact HS.pk
 subst c17
 replace H := znif' H; rcases H with ⟨c18, H⟩ | ⟨c18, H⟩
 case inl =>
  have c18a := beq_eq_false_iff_ne.mpr c18
  have c18b := bne_iff_ne.mpr c18
  clear c18
  obtain rfl := zsome H
  go_wp2_with (first | ((with_reducible refine gd 1 rfl ?_); refine ev_bx HS ?_; clear HS; intro g1 w1 HS F) | ((with_reducible refine gd 5 rfl ?_); refine ev_cl HS (spec_l09Num.calls ht3.out) Tryz.func55 ?_; clear HS; intro wt3 HS F) | ((with_reducible refine gd 9 rfl ?_); refine gg ?_; refine ev_cl HS (spec_l09Num.calls ht6.out) Tryz.func55 ?_; clear HS; intro wt6 HS F) | ((with_reducible refine gd 14 rfl ?_); refine gg ?_; refine ev_cl HS (spec_l09Num.calls ht9.out) Tryz.func55 ?_; clear HS; intro wt9 HS F) | ((with_reducible refine gd 19 rfl ?_); refine gg ?_; refine ev_cl HS (spec_NameOk.calls ht12.out) Tryz.func136 ?_; clear HS; intro wt12 HS F) | ((with_reducible refine gd 24 rfl ?_); refine gg ?_; refine ev_cl HS (spec_NameOk.calls ht15.out) Tryz.func136 ?_; clear HS; intro wt15 HS F))
  go_ret
  exact HS.pk
 have c18a := beq_iff_eq.mpr c18
 have c18b := bne_eq_false_iff_eq.mpr c18
 clear c18
 replace H := zbind H; obtain ⟨t19, ht19, H⟩ := H
 replace H := znifb H; rcases H with ⟨c21, H⟩ | ⟨c21, H⟩
 case inl =>
  subst c21
  obtain rfl := zsome H
  go_wp2_with (first | ((with_reducible refine gd 1 rfl ?_); refine ev_bx HS ?_; clear HS; intro g1 w1 HS F) | ((with_reducible refine gd 5 rfl ?_); refine ev_cl HS (spec_l09Num.calls ht3.out) Tryz.func55 ?_; clear HS; intro wt3 HS F) | ((with_reducible refine gd 9 rfl ?_); refine gg ?_; refine ev_cl HS (spec_l09Num.calls ht6.out) Tryz.func55 ?_; clear HS; intro wt6 HS F) | ((with_reducible refine gd 14 rfl ?_); refine gg ?_; refine ev_cl HS (spec_l09Num.calls ht9.out) Tryz.func55 ?_; clear HS; intro wt9 HS F) | ((with_reducible refine gd 19 rfl ?_); refine gg ?_; refine ev_cl HS (spec_NameOk.calls ht12.out) Tryz.func136 ?_; clear HS; intro wt12 HS F) | ((with_reducible refine gd 24 rfl ?_); refine gg ?_; refine ev_cl HS (spec_NameOk.calls ht15.out) Tryz.func136 ?_; clear HS; intro wt15 HS F) | ((with_reducible refine gd 35 rfl ?_); refine gg ?_; refine ev_cl HS (spec_l01In.calls ht19.out) Tryz.func54 ?_; clear HS; intro wt19 HS F))
  go_ret
  exact HS.pk
 subst c21
 replace H := zbind H; obtain ⟨t22, ht22, H⟩ := H
 replace H := znifb H; rcases H with ⟨c24, H⟩ | ⟨c24, H⟩
 case inl =>
  subst c24
  obtain rfl := zsome H
  go_wp2_with (first | ((with_reducible refine gd 1 rfl ?_); refine ev_bx HS ?_; clear HS; intro g1 w1 HS F) | ((with_reducible refine gd 5 rfl ?_); refine ev_cl HS (spec_l09Num.calls ht3.out) Tryz.func55 ?_; clear HS; intro wt3 HS F) | ((with_reducible refine gd 9 rfl ?_); refine gg ?_; refine ev_cl HS (spec_l09Num.calls ht6.out) Tryz.func55 ?_; clear HS; intro wt6 HS F) | ((with_reducible refine gd 14 rfl ?_); refine gg ?_; refine ev_cl HS (spec_l09Num.calls ht9.out) Tryz.func55 ?_; clear HS; intro wt9 HS F) | ((with_reducible refine gd 19 rfl ?_); refine gg ?_; refine ev_cl HS (spec_NameOk.calls ht12.out) Tryz.func136 ?_; clear HS; intro wt12 HS F) | ((with_reducible refine gd 24 rfl ?_); refine gg ?_; refine ev_cl HS (spec_NameOk.calls ht15.out) Tryz.func136 ?_; clear HS; intro wt15 HS F) | ((with_reducible refine gd 35 rfl ?_); refine gg ?_; refine ev_cl HS (spec_l01In.calls ht19.out) Tryz.func54 ?_; clear HS; intro wt19 HS F) | ((with_reducible refine gd 40 rfl ?_); refine gg ?_; refine ev_cl HS (spec_l01In.calls ht22.out) Tryz.func54 ?_; clear HS; intro wt22 HS F))
  go_ret
  exact HS.pk
 subst c24
 replace H := zbind H; obtain ⟨t25, ht25, H⟩ := H
 replace H := znifb H; rcases H with ⟨c27, H⟩ | ⟨c27, H⟩
 case inl =>
  subst c27
  obtain rfl := zsome H
  go_wp2_with (first | ((with_reducible refine gd 1 rfl ?_); refine ev_bx HS ?_; clear HS; intro g1 w1 HS F) | ((with_reducible refine gd 5 rfl ?_); refine ev_cl HS (spec_l09Num.calls ht3.out) Tryz.func55 ?_; clear HS; intro wt3 HS F) | ((with_reducible refine gd 9 rfl ?_); refine gg ?_; refine ev_cl HS (spec_l09Num.calls ht6.out) Tryz.func55 ?_; clear HS; intro wt6 HS F) | ((with_reducible refine gd 14 rfl ?_); refine gg ?_; refine ev_cl HS (spec_l09Num.calls ht9.out) Tryz.func55 ?_; clear HS; intro wt9 HS F) | ((with_reducible refine gd 19 rfl ?_); refine gg ?_; refine ev_cl HS (spec_NameOk.calls ht12.out) Tryz.func136 ?_; clear HS; intro wt12 HS F) | ((with_reducible refine gd 24 rfl ?_); refine gg ?_; refine ev_cl HS (spec_NameOk.calls ht15.out) Tryz.func136 ?_; clear HS; intro wt15 HS F) | ((with_reducible refine gd 35 rfl ?_); refine gg ?_; refine ev_cl HS (spec_l01In.calls ht19.out) Tryz.func54 ?_; clear HS; intro wt19 HS F) | ((with_reducible refine gd 40 rfl ?_); refine gg ?_; refine ev_cl HS (spec_l01In.calls ht22.out) Tryz.func54 ?_; clear HS; intro wt22 HS F) | ((with_reducible refine gd 45 rfl ?_); refine gg ?_; refine ev_cl HS (spec_PoliciesOk.calls ht25.out (HS.ro gp0) lp0) Tryz.func91 ?_; clear HS; intro wt25 HS F))
  go_ret
  exact HS.pk
 subst c27
 replace H := zbind H; obtain ⟨t28, ht28, H⟩ := H
 replace H := znifb H; rcases H with ⟨c30, H⟩ | ⟨c30, H⟩
 case inl =>
  subst c30
  obtain rfl := zsome H
  go_wp2_with (first | ((with_reducible refine gd 1 rfl ?_); refine ev_bx HS ?_; clear HS; intro g1 w1 HS F) | ((with_reducible refine gd 5 rfl ?_); refine ev_cl HS (spec_l09Num.calls ht3.out) Tryz.func55 ?_; clear HS; intro wt3 HS F) | ((with_reducible refine gd 9 rfl ?_); refine gg ?_; refine ev_cl HS (spec_l09Num.calls ht6.out) Tryz.func55 ?_; clear HS; intro wt6 HS F) | ((with_reducible refine gd 14 rfl ?_); refine gg ?_; refine ev_cl HS (spec_l09Num.calls ht9.out) Tryz.func55 ?_; clear HS; intro wt9 HS F) | ((with_reducible refine gd 19 rfl ?_); refine gg ?_; refine ev_cl HS (spec_NameOk.calls ht12.out) Tryz.func136 ?_; clear HS; intro wt12 HS F) | ((with_reducible refine gd 24 rfl ?_); refine gg ?_; refine ev_cl HS (spec_NameOk.calls ht15.out) Tryz.func136 ?_; clear HS; intro wt15 HS F) | ((with_reducible refine gd 35 rfl ?_); refine gg ?_; refine ev_cl HS (spec_l01In.calls ht19.out) Tryz.func54 ?_; clear HS; intro wt19 HS F) | ((with_reducible refine gd 40 rfl ?_); refine gg ?_; refine ev_cl HS (spec_l01In.calls ht22.out) Tryz.func54 ?_; clear HS; intro wt22 HS F) | ((with_reducible refine gd 45 rfl ?_); refine gg ?_; refine ev_cl HS (spec_PoliciesOk.calls ht25.out (HS.ro gp0) lp0) Tryz.func91 ?_; clear HS; intro wt25 HS F) | ((with_reducible refine gd 50 rfl ?_); refine gg ?_; refine ev_cl HS (spec_NamesOk.calls ht28.out (HS.ro gp1) lp1) Tryz.func137 ?_; clear HS; intro wt28 HS F))
  go_ret
  exact HS.pk
 subst c30
 replace H := zbind H; obtain ⟨t31, ht31, H⟩ := H
 replace H := zifb H; rcases H with ⟨c33, H⟩ | ⟨c33, H⟩
 case inl =>
  subst c33
  obtain rfl := zsome H
  go_wp2_with (first | ((with_reducible refine gd 1 rfl ?_); refine ev_bx HS ?_; clear HS; intro g1 w1 HS F) | ((with_reducible refine gd 5 rfl ?_); refine ev_cl HS (spec_l09Num.calls ht3.out) Tryz.func55 ?_; clear HS; intro wt3 HS F) | ((with_reducible refine gd 9 rfl ?_); refine gg ?_; refine ev_cl HS (spec_l09Num.calls ht6.out) Tryz.func55 ?_; clear HS; intro wt6 HS F) | ((with_reducible refine gd 14 rfl ?_); refine gg ?_; refine ev_cl HS (spec_l09Num.calls ht9.out) Tryz.func55 ?_; clear HS; intro wt9 HS F) | ((with_reducible refine gd 19 rfl ?_); refine gg ?_; refine ev_cl HS (spec_NameOk.calls ht12.out) Tryz.func136 ?_; clear HS; intro wt12 HS F) | ((with_reducible refine gd 24 rfl ?_); refine gg ?_; refine ev_cl HS (spec_NameOk.calls ht15.out) Tryz.func136 ?_; clear HS; intro wt15 HS F) | ((with_reducible refine gd 35 rfl ?_); refine gg ?_; refine ev_cl HS (spec_l01In.calls ht19.out) Tryz.func54 ?_; clear HS; intro wt19 HS F) | ((with_reducible refine gd 40 rfl ?_); refine gg ?_; refine ev_cl HS (spec_l01In.calls ht22.out) Tryz.func54 ?_; clear HS; intro wt22 HS F) | ((with_reducible refine gd 45 rfl ?_); refine gg ?_; refine ev_cl HS (spec_PoliciesOk.calls ht25.out (HS.ro gp0) lp0) Tryz.func91 ?_; clear HS; intro wt25 HS F) | ((with_reducible refine gd 50 rfl ?_); refine gg ?_; refine ev_cl HS (spec_NamesOk.calls ht28.out (HS.ro gp1) lp1) Tryz.func137 ?_; clear HS; intro wt28 HS F) | ((with_reducible refine gd 55 rfl ?_); refine gg ?_; refine ev_cl HS (spec_NamesOk.calls ht31.out (HS.ro gp2) lp2) Tryz.func137 ?_; clear HS; intro wt31 HS F))
  go_ret
  exact HS.pk
 subst c33
 obtain rfl := zsome H
 go_wp2_with (first | ((with_reducible refine gd 1 rfl ?_); refine ev_bx HS ?_; clear HS; intro g1 w1 HS F) | ((with_reducible refine gd 5 rfl ?_); refine ev_cl HS (spec_l09Num.calls ht3.out) Tryz.func55 ?_; clear HS; intro wt3 HS F) | ((with_reducible refine gd 9 rfl ?_); refine gg ?_; refine ev_cl HS (spec_l09Num.calls ht6.out) Tryz.func55 ?_; clear HS; intro wt6 HS F) | ((with_reducible refine gd 14 rfl ?_); refine gg ?_; refine ev_cl HS (spec_l09Num.calls ht9.out) Tryz.func55 ?_; clear HS; intro wt9 HS F) | ((with_reducible refine gd 19 rfl ?_); refine gg ?_; refine ev_cl HS (spec_NameOk.calls ht12.out) Tryz.func136 ?_; clear HS; intro wt12 HS F) | ((with_reducible refine gd 24 rfl ?_); refine gg ?_; refine ev_cl HS (spec_NameOk.calls ht15.out) Tryz.func136 ?_; clear HS; intro wt15 HS F) | ((with_reducible refine gd 35 rfl ?_); refine gg ?_; refine ev_cl HS (spec_l01In.calls ht19.out) Tryz.func54 ?_; clear HS; intro wt19 HS F) | ((with_reducible refine gd 40 rfl ?_); refine gg ?_; refine ev_cl HS (spec_l01In.calls ht22.out) Tryz.func54 ?_; clear HS; intro wt22 HS F) | ((with_reducible refine gd 45 rfl ?_); refine gg ?_; refine ev_cl HS (spec_PoliciesOk.calls ht25.out (HS.ro gp0) lp0) Tryz.func91 ?_; clear HS; intro wt25 HS F) | ((with_reducible refine gd 50 rfl ?_); refine gg ?_; refine ev_cl HS (spec_NamesOk.calls ht28.out (HS.ro gp1) lp1) Tryz.func137 ?_; clear HS; intro wt28 HS F) | ((with_reducible refine gd 55 rfl ?_); refine gg ?_; refine ev_cl HS (spec_NamesOk.calls ht31.out (HS.ro gp2) lp2) Tryz.func137 ?_; clear HS; intro wt31 HS F))
 go_ret
 exact HS.pk
def spec_CertText.f (k : Nat) (a0 : S125) : Option (ByteArray × Bool) := ((spec_CertOk.f k a0).bind fun t3 => (if t3 = true then ((spec_BodyItem.f k a0).bind fun t13 => ((spec_l09Bytes.f a0.f12).bind fun t15 => ((spec_ItemText.f k (⟨48, (⟨#[]⟩ : ByteArray), ([t13, t15] : List S66)⟩ : S66)).bind fun t18 => (some (t18.1, t18.2))))) else (some ((⟨#[]⟩ : ByteArray), false))))
def spec_CertText.T3 : TT := (true, [([], []), ([0], [0]), ([], []), ([2], [2]), ([3, 1], [3]), ([1, 4], [1, 4]), ([5], [5]), ([6, 4], [6]), ([7], [7]), ([7], [7]), ([8, 7, 0, 1, 2, 3, 4, 5, 6, 7, 8, 9], [8]), ([9, 10, 0, 1, 2, 3, 4, 5, 6, 7, 8, 9, 10], [9])])
theorem spec_CertText.tT3 : rtab .any (opsOf Tryz.f99 3) = spec_CertText.T3 := by kernel_rfl
theorem spec_CertText.calls {k : Nat} {a0 : S125} {Ap0 Ap1 Ap2 : Option Addr} {np0 cp0 np1 cp1 np2 cp2 : Nat} {r1 : ByteArray} {r2 : Bool} {w : World} (h : spec_CertText.f k a0 = some (r1, r2)) (gp0 : (Kd.int .i64).C w Ap0 np0 a0.f9) (lp0 : np0 ≤ cp0) (gp1 : Kd.string.C w Ap1 np1 a0.f10) (lp1 : np1 ≤ cp1) (gp2 : Kd.string.C w Ap2 np2 a0.f11) (lp2 : np2 ≤ cp2) :
    Calls Tryz.prog 99 #[.agg #[.int .i64 a0.f0, .string a0.f1, .string a0.f2, .int .i64 a0.f3, .int .i64 a0.f4, .string a0.f5, .bool a0.f6, .int .i64 a0.f7, .int .i64 a0.f8, .slice Ap0 np0 cp0, .slice Ap1 np1 cp1, .slice Ap2 np2 cp2, .string a0.f12]] w (fun e w' => e = .returned (.tuple #[.string r1, .bool r2]) ∧ Hp noFP w w' []) := by
 obtain rfl := C_len gp0
 obtain rfl := C_len gp1
 obtain rfl := C_len gp2
 have HS := Hp.start w
 have H := Aside0.mk h
 clear h
 unfold spec_CertText.f at H
 go_enter Tryz.func99, Tryz.ntmps99
 replace H := zbind H; obtain ⟨t3, ht3, H⟩ := H
 go_upto_if 6 with (first | ((with_reducible refine gd 1 rfl ?_); refine ev_bx HS ?_; clear HS; intro g1 w1 HS F) | ((with_reducible refine gd 5 rfl ?_); refine ev_cl HS (spec_CertOk.calls ht3.out (HS.ro gp0) lp0 (HS.ro gp1) lp1 (HS.ro gp2) lp2) Tryz.func122 ?_; clear HS; intro wt3 HS F))
 replace H := znifb H; rcases H with ⟨c5, H⟩ | ⟨c5, H⟩
 case inl =>
  subst c5
  (try simp only [dcn, dcu, dcf])
  obtain ⟨rfl, rfl⟩ := zsome2 H
  go_wp2
  exact bodyPost_ret (results_list (rs := [.tmp 2, .tmp 3]) rfl (by simp) (.tmp (.tmp .nil))) rfl ⟨rfl, HS.pick [] (by decide) (by rfl)⟩
 subst c5
 (try simp only [dcn, dcu, dcf])
 (try go_wp2)
 replace H := zbind H; obtain ⟨t13, ht13, H⟩ := H
 replace H := zbind H; obtain ⟨t15, ht15, H⟩ := H
 replace H := zbind H; obtain ⟨t18, ht18, H⟩ := H
 refine dr_start [] HS #[false, false, false, false, false, false, false, false, false, false, false, false] (by kernel_rfl) rfl rfl spec_CertText.tT3 (fun w7 HT HS HH => ?_)
 (try clear F)
 refine drq_of [(0, some 7), (2, some 9), (3, some 10)] ?_
 repeat (first | refine drp HT ?_ | refine drt HT HH ?_)
 refine drq_end ?_
 refine dr1 1 HT fun K hK => ?_
 refine go_cl1 HS (spec_BodyItem.calls ht13.out (HS.ro gp0) lp0 (HS.ro gp1) lp1 (HS.ro gp2) lp2) Tryz.func123 ?_; clear HS; intro v14 wt13 HS F; obtain ⟨B14, d14, rfl, m14⟩ := HS.form 1 rfl
 refine nrm 8 hK ⟨_, HS⟩ (fun HH => ?_); clear hK K
 refine dr1 4 HT fun K hK => ?_
 refine go_cl1 HS (spec_l09Bytes.calls ht15.out) Tryz.func75 ?_; clear HS; intro v16 wt15 HS F; obtain ⟨B16, d16, rfl, m16⟩ := HS.form 2 rfl
 refine nrm 11 hK ⟨_, HS⟩ (fun HH => ?_); clear hK K
 refine dr1 5 HT fun K hK => ?_
 refine if_li q66 [1, 2] ([t13, t15] : List S66) ([.int .i64 t13.f0, .string t13.f1, .slice B14 t13.f2.length d14] ++ ([.int .i64 t15.f0, .string t15.f1, .slice B16 t15.f2.length d16] ++ [])) HS (MadeL.cons (js1 := [1]) (c := [.int .i64 t13.f0, .string t13.f1, .slice B14 t13.f2.length d14]) rfl (fun S hd hh => q66_pack (x := t13) hd (hh 1 (.own (Zd.slice 66 q66) t13.f2 [.slice B14 t13.f2.length d14]) rfl) (by decide)) (MadeL.cons (js1 := [2]) (c := [.int .i64 t15.f0, .string t15.f1, .slice B16 t15.f2.length d16]) rfl (fun S hd hh => q66_pack (x := t15) hd (hh 2 (.own (Zd.slice 66 q66) t15.f2 [.slice B16 t15.f2.length d16]) rfl) (by decide)) MadeL.nil (by decide)) (by decide)) ?_; clear HS; intro v17 w17 HS F; obtain ⟨B17, d17, rfl, m17⟩ := HS.formn 2 3 rfl rfl
 refine nrm 12 hK ⟨_, HS⟩ (fun HH => ?_); clear hK K
 refine drq_of [(6, some 13)] ?_
 repeat (refine drp HT ?_)
 refine drq_end ?_
 refine dr1 7 HT fun K hK => ?_
 refine go_cl HS (spec_ItemText.calls ht18.out (HS.rd 3 rfl) m17) Tryz.func36 ?_; clear HS; intro wt18 HS F
 refine nrm 14 hK ⟨_, HS⟩ (fun HH => ?_); clear hK K
 refine drq_of [(8, some 15), (9, some 16), (10, some 2), (11, some 3)] ?_
 repeat (refine drp HT ?_)
 refine drq_end ?_
 refine done_ (done_of HT.out (by kernel_rfl)) ?_
 (try clear F)
 have F := HS.boxes; simp only [bxn] at F
 obtain ⟨rfl, rfl⟩ := zsome2 H
 go_wp2
 exact bodyPost_ret (results_list (rs := [.tmp 2, .tmp 3]) rfl (by simp) (.tmp (.tmp .nil))) rfl ⟨rfl, HS.pick [] (by decide) (by rfl)⟩
def spec_l14Ask_0.l0 : Nat → (List ByteArray) → Int → Int → Int → S110 → Int × S110 → Int × S110 → Int × S110 → Bool × S110 → Int × S110 → Option (S26 × S110)
  | 0, _, _, _, _, _, _, _, _, _, _ => none
  | k + 1, l115, x117, x118, x119, a0, t3, t5, t11, t13, t23 => ((spec_l01Below_0.f (⟨a0.f0, x118, x119⟩ : S110) 2).bind fun t121 => (if x117 < (wrap64 (1 + t121.1)) then ((spec_l13Target_0.f k (⟨a0.f0, t121.2.f1, t121.2.f2⟩ : S110)).bind fun t124 => ((spec_CertText.f k t124.1).bind fun t129 => (if t129.2 = true then ((spec_l01Once_0.f (⟨a0.f0, t124.2.f1, t124.2.f2⟩ : S110) 8).bind fun t132 => (if t132.1 = true then ((spec_l01Text_0.f k (⟨a0.f0, t132.2.f1, t132.2.f2⟩ : S110) 5).bind fun t135 => (if l115.length + 1 ≤ 8796093022208 then (lets (l115 ++ ([t135.1] : List ByteArray)) fun y140 => (spec_l14Ask_0.l0 k y140 (wrap64 (x117 + 1)) t135.2.f1 t135.2.f2 a0 t3 t5 t11 t13 t23)) else none)) else (if l115.length + 1 ≤ 8796093022208 then (lets (l115 ++ ([t129.1] : List ByteArray)) fun y147 => (spec_l14Ask_0.l0 k y147 (wrap64 (x117 + 1)) t132.2.f1 t132.2.f2 a0 t3 t5 t11 t13 t23)) else none))) else ((spec_l01Text_0.f k (⟨a0.f0, t124.2.f1, t124.2.f2⟩ : S110) 5).bind fun t151 => (if l115.length + 1 ≤ 8796093022208 then (lets (l115 ++ ([t151.1] : List ByteArray)) fun y156 => (spec_l14Ask_0.l0 k y156 (wrap64 (x117 + 1)) t151.2.f1 t151.2.f2 a0 t3 t5 t11 t13 t23)) else none))))) else (some ((⟨l115, t3.1, t5.1, t11.1, t23.1, t13.1⟩ : S26), (⟨a0.f0, t121.2.f1, t121.2.f2⟩ : S110)))))
def spec_l14Ask_0.f (k : Nat) (a0 : S110) : Option (S26 × S110) := ((spec_l01Below_0.f a0 3).bind fun t3 => ((spec_l01Below_0.f (⟨a0.f0, t3.2.f1, t3.2.f2⟩ : S110) 4).bind fun t5 => ((spec_l01PickInt_0.f (⟨a0.f0, t5.2.f1, t5.2.f2⟩ : S110) ([0, 0, 7, 99] : List Int)).bind fun t11 => ((spec_l01Once_0.f (⟨a0.f0, t11.2.f1, t11.2.f2⟩ : S110) 2).bind fun t13 => ((spec_l01PickInt_0.f (⟨a0.f0, t13.2.f1, t13.2.f2⟩ : S110) ([0, 0, 20, 50] : List Int)).bind fun t23 => (spec_l14Ask_0.l0 k [] 0 t23.2.f1 t23.2.f2 a0 t3 t5 t11 t13 t23))))))
theorem spec_l14Ask_0.calls {k : Nat} {a0 : S110} {A : FP} {p0 : Nat} {Ap1 : Option Addr} {np1 cp1 : Nat} {wv : World} {r1 : S26} {r2 : S110} {w : World} (h : spec_l14Ask_0.f k a0 = some (r1, r2)) (gp1 : (Kd.int .u8).C wv Ap1 np1 a0.f0) (lp1 : np1 ≤ cp1) (hV : View A w wv) (HS : Hp A w w [.box p0 [.slice Ap1 np1 cp1, .int .i64 a0.f1, .int .i64 a0.f2] 110]) :
    Calls Tryz.prog 68 #[.pointer (some ⟨p0, 0, none⟩)] w (fun e w' => ∃ v0_ : Value, e = .returned (.agg #[v0_, .int .i64 r1.f1, .int .i64 r1.f2, .int .i64 r1.f3, .int .i64 r1.f4, .bool r1.f5]) ∧ Hp A w w' [.box p0 [.slice Ap1 np1 cp1, .int .i64 r2.f1, .int .i64 r2.f2] 110, .own (Zd.slice 9 Zd.string) r1.f0 [v0_]]) := by
 obtain rfl := C_len gp1
 have H := Aside0.mk h
 clear h
 unfold spec_l14Ask_0.f at H
 go_enter Tryz.func68, Tryz.ntmps68
 have F := HS.boxes; simp only [bxn] at F
 replace H := zbind H; obtain ⟨t3, ht3, H⟩ := H
 replace H := zbind H; obtain ⟨t5, ht5, H⟩ := H
 replace H := zbind H; obtain ⟨t11, ht11, H⟩ := H
 replace H := zbind H; obtain ⟨t13, ht13, H⟩ := H
 replace H := zbind H; obtain ⟨t23, ht23, H⟩ := H
 go_wp2_with (first | ((with_reducible refine gd 2 rfl ?_); refine ev_bx HS ?_; clear HS; intro g2 w2 HS F) | ((with_reducible refine gd 8 rfl ?_); refine HS.lend [0] (by decide) [.box p0 [.slice Ap1 a0.f0.length cp1, .int .i64 a0.f1, .int .i64 a0.f2] 110] rfl (fun A' HL HD HA HB => ?_); refine ev_lc (spec_l01Below_0.calls ht3.out gp1 lp1 (hV.lend HS HL) HA) (fun _ HQ => HB _ _ HQ (Nat.le_of_ble_eq_true rfl)) Tryz.func45 ?_; clear HS HA HB HL HD; intro wt3 HS F) | ((with_reducible refine gd 10 rfl ?_); refine HS.lend [0] (by decide) [.box p0 [.slice Ap1 a0.f0.length cp1, .int .i64 t3.2.f1, .int .i64 t3.2.f2] 110] rfl (fun A' HL HD HA HB => ?_); refine ev_lc (spec_l01Below_0.calls ht5.out gp1 lp1 (hV.lend HS HL) HA) (fun _ HQ => HB _ _ HQ (Nat.le_of_ble_eq_true rfl)) Tryz.func45 ?_; clear HS HA HB HL HD; intro wt5 HS F) | ((with_reducible refine gd 12 rfl ?_); refine ev_li (Zd.int .i64) [] ([0, 0, 7, 99] : List Int) ([.int .i64 0] ++ ([.int .i64 0] ++ ([.int .i64 7] ++ ([.int .i64 99] ++ [])))) HS (MadeL.cons (js1 := []) (c := [.int .i64 0]) rfl (made_flat (fun _ => rfl)) (MadeL.cons (js1 := []) (c := [.int .i64 0]) rfl (made_flat (fun _ => rfl)) (MadeL.cons (js1 := []) (c := [.int .i64 7]) rfl (made_flat (fun _ => rfl)) (MadeL.cons (js1 := []) (c := [.int .i64 99]) rfl (made_flat (fun _ => rfl)) MadeL.nil (by decide)) (by decide)) (by decide)) (by decide)) ?_; clear HS; intro v7 w7 HS F; obtain ⟨B7, d7, rfl, m7⟩ := HS.formn 4 2 rfl rfl; refine HS.lend [0, 1] (by decide) [.box p0 [.slice Ap1 a0.f0.length cp1, .int .i64 t5.2.f1, .int .i64 t5.2.f2] 110, .box g2 [.slice none 0 0, .int .i64 0, .int .i64 0, .int .i64 0, .int .i64 0, .bool false] 26] rfl (fun A9 HL HD HA HB9 => ?_); have gb9_0 := hide_rd HD 2 rfl (by decide); have gb9_1 := hV.hideC up_int HS HL gp1; replace HS := HA; replace hV := hide_view A9 w7; clear HA HD HL; (try clear F); replace HS : Hp A9 w7 _ [.box p0 [.slice Ap1 a0.f0.length cp1, .int .i64 t5.2.f1, .int .i64 t5.2.f2] 110, .box g2 [.slice none 0 0, .int .i64 0, .int .i64 0, .int .i64 0, .int .i64 0, .bool false] 26] := HS; have F := HS.boxes; simp only [bxn] at F) | ((with_reducible refine gd 13 rfl ?_); refine HS.lend [0] (by decide) [.box p0 [.slice Ap1 a0.f0.length cp1, .int .i64 t5.2.f1, .int .i64 t5.2.f2] 110] rfl (fun A' HL HD HA HB => ?_); refine ev_lc (spec_l01PickInt_0.calls ht11.out gb9_1 lp1 gb9_0 m7 (hV.lend HS HL) HA) (fun _ HQ => HB _ _ HQ (Nat.le_of_ble_eq_true rfl)) Tryz.func97 ?_; clear HS HA HB HL HD; intro wt11 HS F) | ((with_reducible refine gd 15 rfl ?_); refine HS.lend [0] (by decide) [.box p0 [.slice Ap1 a0.f0.length cp1, .int .i64 t11.2.f1, .int .i64 t11.2.f2] 110] rfl (fun A' HL HD HA HB => ?_); refine ev_lc (spec_l01Once_0.calls ht13.out gb9_1 lp1 (hV.lend HS HL) HA) (fun _ HQ => HB _ _ HQ (Nat.le_of_ble_eq_true rfl)) Tryz.func98 ?_; clear HS HA HB HL HD; intro wt13 HS F) | ((with_reducible refine gd 3 rfl ?_); refine ev_bx HS ?_; clear HS; intro g3 w3 HS F) | ((with_reducible refine gate_store (p := 3) rfl ?_); refine ev_st 2 0 HS (seg := [.slice none 0 0, .int .i64 t3.1, .int .i64 t5.1, .int .i64 t11.1, .int .i64 0, .bool t13.1]) ?_; clear HS; intro w17 HS F) | ((with_reducible refine gd 18 rfl ?_); refine ev_li (Zd.int .i64) [] ([0, 0, 20, 50] : List Int) ([.int .i64 0] ++ ([.int .i64 0] ++ ([.int .i64 20] ++ ([.int .i64 50] ++ [])))) HS (MadeL.cons (js1 := []) (c := [.int .i64 0]) rfl (made_flat (fun _ => rfl)) (MadeL.cons (js1 := []) (c := [.int .i64 0]) rfl (made_flat (fun _ => rfl)) (MadeL.cons (js1 := []) (c := [.int .i64 20]) rfl (made_flat (fun _ => rfl)) (MadeL.cons (js1 := []) (c := [.int .i64 50]) rfl (made_flat (fun _ => rfl)) MadeL.nil (by decide)) (by decide)) (by decide)) (by decide)) ?_; clear HS; intro v19 w19 HS F; obtain ⟨B19, d19, rfl, m19⟩ := HS.formn 4 3 rfl rfl; refine HS.lend [0, 1, 2] (by decide) [.box p0 [.slice Ap1 a0.f0.length cp1, .int .i64 t13.2.f1, .int .i64 t13.2.f2] 110, .box g2 [.slice none 0 0, .int .i64 0, .int .i64 0, .int .i64 0, .int .i64 0, .bool false] 26, .box g3 [.slice none 0 0, .int .i64 t3.1, .int .i64 t5.1, .int .i64 t11.1, .int .i64 0, .bool t13.1] 26] rfl (fun A21 HL HD HA HB21 => ?_); have gb21_0 := hV.hideC up_int HS HL gb9_0; have gb21_1 := hide_rd HD 3 rfl (by decide); have gb21_2 := hV.hideC up_int HS HL gb9_1; replace HS := HA; replace hV := hide_view A21 w19; clear HA HD HL; (try clear F); replace HS : Hp A21 w19 _ [.box p0 [.slice Ap1 a0.f0.length cp1, .int .i64 t13.2.f1, .int .i64 t13.2.f2] 110, .box g2 [.slice none 0 0, .int .i64 0, .int .i64 0, .int .i64 0, .int .i64 0, .bool false] 26, .box g3 [.slice none 0 0, .int .i64 t3.1, .int .i64 t5.1, .int .i64 t11.1, .int .i64 0, .bool t13.1] 26] := HS; have F := HS.boxes; simp only [bxn] at F) | ((with_reducible refine gd 19 rfl ?_); refine HS.lend [0] (by decide) [.box p0 [.slice Ap1 a0.f0.length cp1, .int .i64 t13.2.f1, .int .i64 t13.2.f2] 110] rfl (fun A' HL HD HA HB => ?_); refine ev_lc (spec_l01PickInt_0.calls ht23.out gb21_2 lp1 gb21_1 m19 (hV.lend HS HL) HA) (fun _ HQ => HB _ _ HQ (Nat.le_of_ble_eq_true rfl)) Tryz.func97 ?_; clear HS HA HB HL HD; intro wt23 HS F) | ((with_reducible refine gate_store (p := 20) rfl ?_); refine ev_st 2 4 HS (seg := [.int .i64 t23.1]) ?_; clear HS; intro w25 HS F))
 replace HS := HS.nil 9 Zd.string
 go_loopg [4] k (fun kq v_4 w' => ∃ (l115 : List ByteArray) (v116 : Value) (x117 : Int) (x118 : Int) (x119 : Int), v_4 = .int .i64 x117 ∧ Aside0 (spec_l14Ask_0.l0 kq l115 x117 x118 x119 a0 t3 t5 t11 t13 t23 = some (r1, r2)) ∧ Aside0 (kq ≤ k) ∧ Hp A21 w19 w' [.box p0 [.slice Ap1 a0.f0.length cp1, .int .i64 x118, .int .i64 x119] 110, .box g2 [.slice none 0 0, .int .i64 0, .int .i64 0, .int .i64 0, .int .i64 0, .bool false] 26, .box g3 [v116, .int .i64 t3.1, .int .i64 t5.1, .int .i64 t11.1, .int .i64 t23.1, .bool t13.1] 26, .own (Zd.slice 9 Zd.string) l115 [v116]])
 case atStart => exact ⟨_, _, _, _, _, rfl, H, ⟨Nat.le_refl _⟩, HS⟩
 case round =>
  clear HS H; (try clear F)
  obtain ⟨l115, v116, x117, x118, x119, rfl, H, HKk114, HS⟩ := hrel
  obtain ⟨B116, d116, rfl, m116⟩ := HS.form 3 rfl
  have F := HS.boxes; simp only [bxn] at F
  cases gk with
  | zero => exact absurd H.out (by simp [spec_l14Ask_0.l0])
  | succ k114 =>
   simp only [spec_l14Ask_0.l0] at H
   replace H := zbind H; obtain ⟨t121, ht121, H⟩ := H
   go_upto_if 25 with ((with_reducible refine gd 23 rfl ?_); refine HS.lend [0] (by decide) [.box p0 [.slice Ap1 a0.f0.length cp1, .int .i64 x118, .int .i64 x119] 110] rfl (fun A' HL HD HA HB => ?_); refine ev_lc (spec_l01Below_0.calls ht121.out gb21_2 lp1 (hV.lend HS HL) HA) (fun _ HQ => HB _ _ HQ (Nat.le_of_ble_eq_true rfl)) Tryz.func45 ?_; clear HS HA HB HL HD; intro wt121 HS F)
   replace H := znif H; rcases H with ⟨c123, H⟩ | ⟨c123, H⟩
   case inl =>
    (try simp only [c123, dcn])
    obtain ⟨rfl, rfl⟩ := zsome2 H
    go_wp2_with ((with_reducible refine gate_store (p := 2) rfl ?_); refine ev_st 1 0 HS (seg := [.slice B116 l115.length d116, .int .i64 t3.1, .int .i64 t5.1, .int .i64 t11.1, .int .i64 t23.1, .bool t13.1]) ?_; clear HS; intro w160 HS F)
    have HS := HB21 _ _ HS (Nat.le_of_ble_eq_true rfl)
    have HS := HB9 _ _ HS (Nat.le_of_ble_eq_true rfl)
    exact bodyPost_ret (results_single rfl (.cell _ _ _ _ _ rfl (HS.boxAt (i := 1) rfl) Tryz.underlying26 rfl (by kernel_rfl) .nil)) rfl ⟨_, rfl, HS.pick [0, 5] (by decide) (by rfl)⟩
   (try simp only [c123, dcn])
   replace H := zbind H; obtain ⟨t124, ht124, H⟩ := H
   replace H := zbind H; obtain ⟨t129, ht129, H⟩ := H
   replace H := znifb H; rcases H with ⟨c131, H⟩ | ⟨c131, H⟩
   case inl =>
    replace H := zbind H; obtain ⟨t151, ht151, H⟩ := H
    replace H := zgo H; obtain ⟨c155, H⟩ := H
    replace H := zlets H; obtain ⟨y156, e_y156, H⟩ := H
    go_wp2_with (first | ((with_reducible refine gd 30 rfl ?_); refine HS.lend [0] (by decide) [.box p0 [.slice Ap1 a0.f0.length cp1, .int .i64 t121.2.f1, .int .i64 t121.2.f2] 110] rfl (fun A' HL HD HA HB => ?_); refine ev_call rfl Tryz.func100 (by kernel_rfl) rfl #[.pointer (some ⟨p0, 0, none⟩)] rfl (by simp only [mpn]; rfl) ?_; refine (spec_l13Target_0.calls ht124.out gb21_2 lp1 (hV.lend HS HL) HA).mono ?_; rintro _ wt124 ⟨v125, v126, v127, rfl, HQ⟩; refine ⟨_, rfl, ?_⟩; replace HS := HB _ _ HQ (Nat.le_of_ble_eq_true rfl); clear HQ HA HB HL HD; (try simp only [hpn, hpm] at HS); (try clear F); obtain ⟨B125, d125, rfl, m125⟩ := HS.form 4 rfl; obtain ⟨B126, d126, rfl, m126⟩ := HS.form 5 rfl; obtain ⟨B127, d127, rfl, m127⟩ := HS.form 6 rfl; (try simp only [hpn, hpm] at HS); have F := HS.boxes; simp only [bxn] at F) | ((with_reducible refine gd 31 rfl ?_); refine ev_cl HS (spec_CertText.calls ht129.out (HS.rd 4 rfl) m125 (HS.rd 5 rfl) m126 (HS.rd 6 rfl) m127) Tryz.func99 ?_; clear HS; intro wt129 HS F; (try simp only [c131])) | ((with_reducible refine gd 41 rfl ?_); refine HS.lend [0] (by decide) [.box p0 [.slice Ap1 a0.f0.length cp1, .int .i64 t124.2.f1, .int .i64 t124.2.f2] 110] rfl (fun A' HL HD HA HB => ?_); refine ev_lc (spec_l01Text_0.calls ht151.out gb21_2 lp1 (hV.lend HS HL) HA) (fun _ HQ => HB _ _ HQ (Nat.le_of_ble_eq_true rfl)) Tryz.func80 ?_; clear HS HA HB HL HD; intro wt151 HS F) | ((with_reducible refine gd 45 rfl ?_); refine ev_li Zd.string [] ([t151.1] : List ByteArray) ([.string t151.1] ++ []) HS (MadeL.cons (js1 := []) (c := [.string t151.1]) rfl (made_flat (fun _ => rfl)) MadeL.nil (by decide)) ?_; clear HS; intro v153 w153 HS F; obtain ⟨B153, d153, rfl, m153⟩ := HS.formn 1 7 rfl rfl) | ((with_reducible refine gd 46 rfl ?_); refine ev_ap Zd.string 3 7 HS rfl rfl Tryz.underlying24 info9 (of_eq_true c155) ?_; clear HS; intro v156 w156 HS; rw [← e_y156.out] at HS; obtain ⟨B156, d156, rfl, m156⟩ := HS.form 8 rfl; (try simp only [hpn, hpm] at HS); have F := HS.boxes; simp only [bxn] at F) | ((with_reducible refine gate_store (p := 47) rfl ?_); refine ev_st 2 0 HS (seg := [.slice B156 y156.length d156]) ?_; clear HS; intro w158 HS F))
    go_roundg k114
    case measure => have := HKk114.out; omega
    case rel => exact ⟨_, _, _, _, _, rfl, H, ⟨by have := HKk114.out; omega⟩, HS.pick [0, 1, 2, 8] (by decide) (by rfl)⟩
   replace H := zbind H; obtain ⟨t132, ht132, H⟩ := H
   go_upto_if 39 with (first | ((with_reducible refine gd 30 rfl ?_); refine HS.lend [0] (by decide) [.box p0 [.slice Ap1 a0.f0.length cp1, .int .i64 t121.2.f1, .int .i64 t121.2.f2] 110] rfl (fun A' HL HD HA HB => ?_); refine ev_call rfl Tryz.func100 (by kernel_rfl) rfl #[.pointer (some ⟨p0, 0, none⟩)] rfl (by simp only [mpn]; rfl) ?_; refine (spec_l13Target_0.calls ht124.out gb21_2 lp1 (hV.lend HS HL) HA).mono ?_; rintro _ wt124 ⟨v125, v126, v127, rfl, HQ⟩; refine ⟨_, rfl, ?_⟩; replace HS := HB _ _ HQ (Nat.le_of_ble_eq_true rfl); clear HQ HA HB HL HD; (try simp only [hpn, hpm] at HS); (try clear F); obtain ⟨B125, d125, rfl, m125⟩ := HS.form 4 rfl; obtain ⟨B126, d126, rfl, m126⟩ := HS.form 5 rfl; obtain ⟨B127, d127, rfl, m127⟩ := HS.form 6 rfl; (try simp only [hpn, hpm] at HS); have F := HS.boxes; simp only [bxn] at F) | ((with_reducible refine gd 31 rfl ?_); refine ev_cl HS (spec_CertText.calls ht129.out (HS.rd 4 rfl) m125 (HS.rd 5 rfl) m126 (HS.rd 6 rfl) m127) Tryz.func99 ?_; clear HS; intro wt129 HS F; (try simp only [c131])) | ((with_reducible refine gd 38 rfl ?_); refine HS.lend [0] (by decide) [.box p0 [.slice Ap1 a0.f0.length cp1, .int .i64 t124.2.f1, .int .i64 t124.2.f2] 110] rfl (fun A' HL HD HA HB => ?_); refine gg ?_; refine ev_lc (spec_l01Once_0.calls ht132.out gb21_2 lp1 (hV.lend HS HL) HA) (fun _ HQ => HB _ _ HQ (Nat.le_of_ble_eq_true rfl)) Tryz.func98 ?_; clear HS HA HB HL HD; intro wt132 HS F))
   replace H := znifb H; rcases H with ⟨c134, H⟩ | ⟨c134, H⟩
   case inl =>
    (try simp only [c134, dcn])
    replace H := zgo H; obtain ⟨c146, H⟩ := H
    replace H := zlets H; obtain ⟨y147, e_y147, H⟩ := H
    go_wp2_with (first | ((with_reducible refine gd 45 rfl ?_); refine ev_li Zd.string [] ([t129.1] : List ByteArray) ([.string t129.1] ++ []) HS (MadeL.cons (js1 := []) (c := [.string t129.1]) rfl (made_flat (fun _ => rfl)) MadeL.nil (by decide)) ?_; clear HS; intro v144 w144 HS F; obtain ⟨B144, d144, rfl, m144⟩ := HS.formn 1 7 rfl rfl) | ((with_reducible refine gd 46 rfl ?_); refine ev_ap Zd.string 3 7 HS rfl rfl Tryz.underlying24 info9 (of_eq_true c146) ?_; clear HS; intro v147 w147 HS; rw [← e_y147.out] at HS; obtain ⟨B147, d147, rfl, m147⟩ := HS.form 8 rfl; (try simp only [hpn, hpm] at HS); have F := HS.boxes; simp only [bxn] at F) | ((with_reducible refine gate_store (p := 47) rfl ?_); refine ev_st 2 0 HS (seg := [.slice B147 y147.length d147]) ?_; clear HS; intro w149 HS F))
    go_roundg k114
    case measure => have := HKk114.out; omega
    case rel => exact ⟨_, _, _, _, _, rfl, H, ⟨by have := HKk114.out; omega⟩, HS.pick [0, 1, 2, 8] (by decide) (by rfl)⟩
   (try simp only [c134, dcn])
   replace H := zbind H; obtain ⟨t135, ht135, H⟩ := H
   replace H := zgo H; obtain ⟨c139, H⟩ := H
   replace H := zlets H; obtain ⟨y140, e_y140, H⟩ := H
   go_wp2_with (first | ((with_reducible refine gd 41 rfl ?_); refine HS.lend [0] (by decide) [.box p0 [.slice Ap1 a0.f0.length cp1, .int .i64 t132.2.f1, .int .i64 t132.2.f2] 110] rfl (fun A' HL HD HA HB => ?_); refine ev_lc (spec_l01Text_0.calls ht135.out gb21_2 lp1 (hV.lend HS HL) HA) (fun _ HQ => HB _ _ HQ (Nat.le_of_ble_eq_true rfl)) Tryz.func80 ?_; clear HS HA HB HL HD; intro wt135 HS F) | ((with_reducible refine gd 45 rfl ?_); refine ev_li Zd.string [] ([t135.1] : List ByteArray) ([.string t135.1] ++ []) HS (MadeL.cons (js1 := []) (c := [.string t135.1]) rfl (made_flat (fun _ => rfl)) MadeL.nil (by decide)) ?_; clear HS; intro v137 w137 HS F; obtain ⟨B137, d137, rfl, m137⟩ := HS.formn 1 7 rfl rfl) | ((with_reducible refine gd 46 rfl ?_); refine ev_ap Zd.string 3 7 HS rfl rfl Tryz.underlying24 info9 (of_eq_true c139) ?_; clear HS; intro v140 w140 HS; rw [← e_y140.out] at HS; obtain ⟨B140, d140, rfl, m140⟩ := HS.form 8 rfl; (try simp only [hpn, hpm] at HS); have F := HS.boxes; simp only [bxn] at F) | ((with_reducible refine gate_store (p := 47) rfl ?_); refine ev_st 2 0 HS (seg := [.slice B140 y140.length d140]) ?_; clear HS; intro w142 HS F))
   go_roundg k114
   case measure => have := HKk114.out; omega
   case rel => exact ⟨_, _, _, _, _, rfl, H, ⟨by have := HKk114.out; omega⟩, HS.pick [0, 1, 2, 8] (by decide) (by rfl)⟩
def spec_l01Long.l0 : Nat → (List Int) → Int → Int → Int → Nat → Option (ByteArray)
  | 0, _, _, _, _, _ => none
  | k + 1, l18, x20, a0, a1, y3 => (if x20 < a0 then (if 0 ≤ x20 then (if x20 < (y3 : Int) then (spec_l01Long.l0 k (l18.set (x20).toNat a1) (wrap64 (x20 + 1)) a0 a1 y3) else none) else none) else (some (strOfNums l18)))
def spec_l01Long.f (k : Nat) (a0 : Int) (a1 : Int) : Option (ByteArray) := (if 0 ≤ a0 then (if (a0).toNat ≤ 281474976710656 then (lets (a0).toNat fun y3 => (spec_l01Long.l0 k (List.replicate y3 (0 : Int)) 0 a0 a1 y3)) else none) else none)
theorem spec_l01Long.calls {k : Nat} {a0 : Int} {a1 : Int} {r : ByteArray} {w : World} (h : spec_l01Long.f k a0 a1 = some r) :
    Calls Tryz.prog 69 #[.int .i64 a0, .int .u8 a1] w (fun e w' => e = .returned (.string r) ∧ Hp noFP w w' []) := by
 have HS := Hp.start w
 have H := Aside0.mk h
 clear h
 unfold spec_l01Long.f at H
 go_enter Tryz.func69, Tryz.ntmps69
 replace H := zgo H; obtain ⟨c1, H⟩ := H
 replace H := zgo H; obtain ⟨c2, H⟩ := H
 replace H := zlets H; obtain ⟨y3, e_y3, H⟩ := H
 go_wp2_with ((with_reducible refine gd 8 rfl ?_); refine ev_make rfl (Zd.int .u8) (0 : Int) HS rfl a0 rfl rfl Tryz.underlying22 info5 rfl (by decide) (by decide) (fun _ _ => rfl) (of_eq_true c1) (by have := of_eq_true c2; omega) ?_; clear HS; intro v4 w4 HS; rw [← e_y3.out] at HS; obtain ⟨B4, d4, rfl, m4⟩ := HS.formn y3 0 rfl (by first | rfl | simp); (try simp only [hpn, hpm] at HS))
 go_loopg [6] k (fun kq v_6 w' => ∃ (l18 : List Int) (x20 : Int), v_6 = .int .i64 x20 ∧ Aside0 (spec_l01Long.l0 kq l18 x20 a0 a1 y3 = some r) ∧ Aside0 (kq ≤ k) ∧ Hp noFP w w' [.own (Zd.slice 5 (Zd.int .u8)) l18 [.slice B4 y3 d4]])
 case atStart => exact ⟨_, _, rfl, H, ⟨Nat.le_refl _⟩, HS⟩
 case round =>
  clear HS H; (try clear F)
  obtain ⟨l18, x20, rfl, H, HKk17, HS⟩ := hrel
  cases gk with
  | zero => exact absurd H.out (by simp [spec_l01Long.l0])
  | succ k17 =>
   simp only [spec_l01Long.l0] at H
   replace H := znif H; rcases H with ⟨c22, H⟩ | ⟨c22, H⟩
   case inl =>
    obtain rfl := zsome H
    go_wp2_with ((with_reducible refine gd 19 rfl ?_); refine ev_val rfl (run_str rfl rfl Tryz.underlying22 Tryz.underlying5 Tryz.underlying9 (HS.rd 0 rfl)) ?_)
    go_ret
    exact HS.pk
   replace H := zgo H; obtain ⟨c23, H⟩ := H
   replace H := zgo H; obtain ⟨c24, H⟩ := H
   obtain ⟨ad25, rfl, e25_0⟩ := Kd.at_int (HS.rd 0 rfl) x20 (of_eq_true c23) (of_eq_true c24)
   go_wp2_with ((with_reducible refine gate_store (p := 17) rfl ?_); refine ev_set rfl (Zd.int .u8) 0 [] x20 a1 HS (seg := [.int .u8 a1]) rfl (by decide) rfl rfl rfl (by first | rfl | exact (Nat.mul_one _).symm) rfl rfl (by kernel_rfl) (by simp [Value.oneCell']) ⟨of_eq_true c23, of_eq_true c24⟩ rfl (made_flat (fun _ => rfl)) ?_; clear HS; intro w26 HS; (try simp only [hpn, hpm] at HS))
   go_roundg k17
   case measure => have := HKk17.out; omega
   case rel => exact ⟨_, _, rfl, H, ⟨by have := HKk17.out; omega⟩, HS.pick [0] (by decide) (by rfl)⟩
def spec_l14Any_0.f (k : Nat) (a0 : S110) : Option (S26 × S110) := ((spec_l01Below_0.f a0 12).bind fun t3 => ((spec_l01Below_0.f (⟨a0.f0, t3.2.f1, t3.2.f2⟩ : S110) 60).bind fun t5 => ((spec_l14Ask_0.f k (⟨a0.f0, t5.2.f1, t5.2.f2⟩ : S110)).bind fun t7 => ((spec_l14Copy.f t7.1).bind fun t10 => (if t3.1 = 0 then (some ((⟨([] : List ByteArray), t10.f1, t10.f2, t10.f3, t10.f4, t10.f5⟩ : S26), (⟨a0.f0, t7.2.f1, t7.2.f2⟩ : S110))) else (if t3.1 = 1 then ((spec_l01Long.f k (wrap64 (400 + (Int.tmod t5.1 2))) 97).bind fun t6 => (if t10.f0.length + 1 ≤ 8796093022208 then (lets (t10.f0 ++ ([t6] : List ByteArray)) fun y14 => (some ((⟨y14, t10.f1, t10.f2, t10.f3, t10.f4, t10.f5⟩ : S26), (⟨a0.f0, t7.2.f1, t7.2.f2⟩ : S110)))) else none)) else (if t3.1 = 2 then (if 0 ≤ (Int.tmod t5.1 3) then (if (Int.tmod t5.1 3) < (3 : Int) then (some ((⟨t10.f0, (rd ([(-1), 99, 100] : List Int) (Int.tmod t5.1 3)), t10.f2, t10.f3, t10.f4, t10.f5⟩ : S26), (⟨a0.f0, t7.2.f1, t7.2.f2⟩ : S110))) else none) else none) else (if t3.1 = 3 then (some ((⟨t10.f0, t10.f1, (Int.tmod t5.1 6), t10.f3, t10.f4, t10.f5⟩ : S26), (⟨a0.f0, t7.2.f1, t7.2.f2⟩ : S110))) else (if t3.1 = 4 then (if 0 ≤ (Int.tmod t5.1 3) then (if (Int.tmod t5.1 3) < (3 : Int) then (some ((⟨t10.f0, t10.f1, t10.f2, (rd ([(-1), 1000000000, 1000000001] : List Int) (Int.tmod t5.1 3)), t10.f4, t10.f5⟩ : S26), (⟨a0.f0, t7.2.f1, t7.2.f2⟩ : S110))) else none) else none) else (some ((⟨t10.f0, t10.f1, t10.f2, t10.f3, t10.f4, t10.f5⟩ : S26), (⟨a0.f0, t7.2.f1, t7.2.f2⟩ : S110))))))))))))
def spec_l14Any_0.T8 : TT := (true, [([], []), ([0], [0]), ([], []), ([2], [2]), ([3], [3]), ([4], [4]), ([5], [5]), ([1, 6, 5], [1, 6]), ([0, 1, 2, 3, 4, 5, 6, 7], []), ([8, 7, 7, 0, 1, 2, 3, 4, 5, 6, 7], [7, 8])])
theorem spec_l14Any_0.tT8 : rtab .any (opsOf Tryz.f28 8) = spec_l14Any_0.T8 := by kernel_rfl
theorem spec_l14Any_0.calls {k : Nat} {a0 : S110} {A : FP} {p0 : Nat} {Ap1 : Option Addr} {np1 cp1 : Nat} {wv : World} {r1 : S26} {r2 : S110} {w : World} (h : spec_l14Any_0.f k a0 = some (r1, r2)) (gp1 : (Kd.int .u8).C wv Ap1 np1 a0.f0) (lp1 : np1 ≤ cp1) (hV : View A w wv) (HS : Hp A w w [.box p0 [.slice Ap1 np1 cp1, .int .i64 a0.f1, .int .i64 a0.f2] 110]) :
    Calls Tryz.prog 28 #[.pointer (some ⟨p0, 0, none⟩)] w (fun e w' => ∃ v0_ : Value, e = .returned (.agg #[v0_, .int .i64 r1.f1, .int .i64 r1.f2, .int .i64 r1.f3, .int .i64 r1.f4, .bool r1.f5]) ∧ Hp A w w' [.box p0 [.slice Ap1 np1 cp1, .int .i64 r2.f1, .int .i64 r2.f2] 110, .own (Zd.slice 9 Zd.string) r1.f0 [v0_]]) := by
 obtain rfl := C_len gp1
 have H := Aside0.mk h
 clear h
 unfold spec_l14Any_0.f at H
 go_enter Tryz.func28, Tryz.ntmps28
 have F := HS.boxes; simp only [bxn] at F
 replace H := zbind H; obtain ⟨t3, ht3, H⟩ := H
 replace H := zbind H; obtain ⟨t5, ht5, H⟩ := H
 replace H := zbind H; obtain ⟨t7, ht7, H⟩ := H
 replace H := zbind H; obtain ⟨t10, ht10, H⟩ := H
 go_upto_if 14 with (first | ((with_reducible refine gd 2 rfl ?_); refine ev_bx HS ?_; clear HS; intro g2 w2 HS F) | ((with_reducible refine gd 7 rfl ?_); refine HS.lend [0] (by decide) [.box p0 [.slice Ap1 a0.f0.length cp1, .int .i64 a0.f1, .int .i64 a0.f2] 110] rfl (fun A' HL HD HA HB => ?_); refine ev_lc (spec_l01Below_0.calls ht3.out gp1 lp1 (hV.lend HS HL) HA) (fun _ HQ => HB _ _ HQ (Nat.le_of_ble_eq_true rfl)) Tryz.func45 ?_; clear HS HA HB HL HD; intro wt3 HS F) | ((with_reducible refine gd 9 rfl ?_); refine HS.lend [0] (by decide) [.box p0 [.slice Ap1 a0.f0.length cp1, .int .i64 t3.2.f1, .int .i64 t3.2.f2] 110] rfl (fun A' HL HD HA HB => ?_); refine ev_lc (spec_l01Below_0.calls ht5.out gp1 lp1 (hV.lend HS HL) HA) (fun _ HQ => HB _ _ HQ (Nat.le_of_ble_eq_true rfl)) Tryz.func45 ?_; clear HS HA HB HL HD; intro wt5 HS F) | ((with_reducible refine gd 11 rfl ?_); refine HS.lend [0] (by decide) [.box p0 [.slice Ap1 a0.f0.length cp1, .int .i64 t5.2.f1, .int .i64 t5.2.f2] 110] rfl (fun A' HL HD HA HB => ?_); refine ev_call rfl Tryz.func68 (by kernel_rfl) rfl #[.pointer (some ⟨p0, 0, none⟩)] rfl (by simp only [mpn]; rfl) ?_; refine (spec_l14Ask_0.calls ht7.out gp1 lp1 (hV.lend HS HL) HA).mono ?_; rintro _ wt7 ⟨v8, rfl, HQ⟩; refine ⟨_, rfl, ?_⟩; replace HS := HB _ _ HQ (Nat.le_of_ble_eq_true rfl); clear HQ HA HB HL HD; (try simp only [hpn, hpm] at HS); (try clear F); obtain ⟨B8, d8, rfl, m8⟩ := HS.form 2 rfl; (try simp only [hpn, hpm] at HS); have F := HS.boxes; simp only [bxn] at F) | ((with_reducible refine gd 12 rfl ?_); refine ev_cl1 HS (spec_l14Copy.calls ht10.out (HS.rd 2 rfl) m8) Tryz.func67 ?_; clear HS; intro v11 wt10 HS F; obtain ⟨B11, d11, rfl, m11⟩ := HS.form 3 rfl) | ((with_reducible refine gd 5 rfl ?_); refine ev_bx HS ?_; clear HS; intro g5 w5 HS F) | ((with_reducible refine gate_store (p := 5) rfl ?_); refine ev_st 4 0 HS (seg := [.slice B11 t10.f0.length d11, .int .i64 t10.f1, .int .i64 t10.f2, .int .i64 t10.f3, .int .i64 t10.f4, .bool t10.f5]) ?_; clear HS; intro w15 HS F))
 replace H := zif' H; rcases H with ⟨c17, H⟩ | ⟨c17, H⟩
 case inl =>
  have c17a := beq_iff_eq.mpr c17
  have c17b := bne_eq_false_iff_eq.mpr c17
  clear c17
  (try simp only [c17a, c17b, dcn])
  obtain ⟨rfl, rfl⟩ := zsome2 H
  go_wp2_with (first | ((with_reducible refine gd 16 rfl ?_); refine ev_li Zd.string [] ([] : List ByteArray) [] HS MadeL.nil ?_; clear HS; intro v18 w18 HS F; obtain ⟨B18, d18, rfl, m18⟩ := HS.formn 0 5 rfl rfl) | ((with_reducible refine gate_store (p := 17) rfl ?_); refine ev_st 4 0 HS (seg := [.slice B18 0 d18]) ?_; clear HS; intro w20 HS F) | ((with_reducible refine gate_store (p := 2) rfl ?_); refine ev_st 1 0 HS (seg := [.slice B18 0 d18, .int .i64 t10.f1, .int .i64 t10.f2, .int .i64 t10.f3, .int .i64 t10.f4, .bool t10.f5]) ?_; clear HS; intro w22 HS F))
  exact bodyPost_ret (results_single rfl (.cell _ _ _ _ _ rfl (HS.boxAt (i := 1) rfl) Tryz.underlying26 rfl (by kernel_rfl) .nil)) rfl ⟨_, rfl, HS.pick [0, 5] (by decide) (by rfl)⟩
 have c17a := beq_eq_false_iff_ne.mpr c17
 have c17b := bne_iff_ne.mpr c17
 clear c17
 (try simp only [c17a, c17b, dcn])
 replace H := zif' H; rcases H with ⟨c24, H⟩ | ⟨c24, H⟩
 case inl =>
  have c24a := beq_iff_eq.mpr c24
  have c24b := bne_eq_false_iff_eq.mpr c24
  clear c24
  (try go_wp2)
  replace H := zbind H; obtain ⟨t6, ht6, H⟩ := H
  replace H := zgo H; obtain ⟨c13, H⟩ := H
  replace H := zlets H; obtain ⟨y14, e_y14, H⟩ := H
  refine dr_start2 [.box p0 [.slice Ap1 a0.f0.length cp1, .int .i64 t7.2.f1, .int .i64 t7.2.f2] 110, .box g2 [.slice none 0 0, .int .i64 0, .int .i64 0, .int .i64 0, .int .i64 0, .bool false] 26, .own (Zd.slice 9 Zd.string) t7.1.f0 [.slice B8 t7.1.f0.length d8], .emp, .box g5 [.slice B11 t10.f0.length d11, .int .i64 t10.f1, .int .i64 t10.f2, .int .i64 t10.f3, .int .i64 t10.f4, .bool t10.f5] 26] [9] HS (HS.arr [some 0, some 1, some 2, none, some 4] (by decide)) #[false, false, false, false, false, false, false, false, false, false] (by kernel_rfl) rfl rfl spec_l14Any_0.tT8 (fun w26 HT HS HH => ?_)
  (try clear F)
  refine drq_of [(0, some 20), (1, some 21), (2, some 22), (3, some 23), (4, some 24)] ?_
  repeat (first | refine drp HT ?_ | refine drt HT HH ?_)
  refine drq_end ?_
  refine dr1 5 HT fun K hK => ?_
  refine go_cl HS (spec_l01Long.calls ht6.out) Tryz.func69 ?_; clear HS; intro wt6 HS F
  refine hK.out _ _ ⟨[], HS.arr [some 0, some 1, some 2, none, some 4] (by decide)⟩ (fun HH => ?_)
  clear hK K
  refine norm_ (a' := ?_) ?_ ?_
  rotate_left
  · show Act.put _ (some 25) _ = _; simp only [Act.put, ptn]; rfl
  refine dr1 6 HT fun K hK => ?_
  refine if_li Zd.string [] ([t6] : List ByteArray) ([.string t6] ++ []) HS (MadeL.cons (js1 := []) (c := [.string t6]) rfl (made_flat (fun _ => rfl)) MadeL.nil (by decide)) ?_; clear HS; intro v12 w12 HS F; obtain ⟨B12, d12, rfl, m12⟩ := HS.formn 1 5 rfl rfl
  refine hK.out _ _ ⟨[], HS.arr [some 0, some 1, some 2, none, some 4] (by decide)⟩ (fun HH => ?_)
  clear hK K
  refine norm_ (a' := ?_) ?_ ?_
  rotate_left
  · show Act.put _ (some 26) _ = _; simp only [Act.put, ptn]; rfl
  refine dr1 7 HT fun K hK => ?_
  refine wp_ap Zd.string 3 5 HS rfl rfl Tryz.underlying24 info9 (of_eq_true c13) ?_; clear HS; intro v14 w14 HS; rw [← e_y14.out] at HS; obtain ⟨B14, d14, rfl, m14⟩ := HS.form 6 rfl
  (try simp only [hpn, hpm] at HS)
  have F := HS.boxes; simp only [bxn] at F
  refine hK.out _ _ ⟨[], HS.arr [some 0, some 1, some 2, none, some 4] (by decide)⟩ (fun HH => ?_)
  clear hK K
  refine norm_ (a' := ?_) ?_ ?_
  rotate_left
  · show Act.put _ (some 27) _ = _; simp only [Act.put, ptn]; rfl
  refine drq_of [(8, some 28)] ?_
  repeat (refine drp HT ?_)
  refine drq_end ?_
  refine dr_last 9 HT rfl (by kernel_rfl) (by decide) (fun K hK => ?_)
  refine if_st 4 0 HS (seg := [.slice B14 y14.length d14]) ?_; clear HS; intro w16 HS F
  refine hK.out _ _ ?_
  clear hK K
  refine done_ (done_of HT.out (by kernel_rfl)) ?_
  (try clear F)
  have F := HS.boxes; simp only [bxn] at F
  obtain ⟨rfl, rfl⟩ := zsome2 H
  go_wp2_with ((with_reducible refine gate_store (p := 2) rfl ?_); refine ev_st 1 0 HS (seg := [.slice B14 y14.length d14, .int .i64 t10.f1, .int .i64 t10.f2, .int .i64 t10.f3, .int .i64 t10.f4, .bool t10.f5]) ?_; clear HS; intro w28 HS F)
  exact bodyPost_ret (results_single rfl (.cell _ _ _ _ _ rfl (HS.boxAt (i := 1) rfl) Tryz.underlying26 rfl (by kernel_rfl) .nil)) rfl ⟨_, rfl, HS.pick [0, 6] (by decide) (by rfl)⟩
 have c24a := beq_eq_false_iff_ne.mpr c24
 have c24b := bne_iff_ne.mpr c24
 clear c24
 replace H := zif' H; rcases H with ⟨c30, H⟩ | ⟨c30, H⟩
 case inl =>
  have c30a := beq_iff_eq.mpr c30
  have c30b := bne_eq_false_iff_eq.mpr c30
  clear c30
  replace H := zgo H; obtain ⟨c33, H⟩ := H
  replace H := zgo H; obtain ⟨c34, H⟩ := H
  obtain ⟨rfl, rfl⟩ := zsome2 H
  go_wp2_with (first | ((with_reducible refine gd 31 rfl ?_); refine ev_li (Zd.int .i64) [] ([(-1), 99, 100] : List Int) ([.int .i64 (-1)] ++ ([.int .i64 99] ++ ([.int .i64 100] ++ []))) HS (MadeL.cons (js1 := []) (c := [.int .i64 (-1)]) rfl (made_flat (fun _ => rfl)) (MadeL.cons (js1 := []) (c := [.int .i64 99]) rfl (made_flat (fun _ => rfl)) (MadeL.cons (js1 := []) (c := [.int .i64 100]) rfl (made_flat (fun _ => rfl)) MadeL.nil (by decide)) (by decide)) (by decide)) ?_; clear HS; intro v31 w31 HS F; obtain ⟨B31, d31, rfl, m31⟩ := HS.formn 3 5 rfl rfl; obtain ⟨ad35, rfl, e35_0⟩ := Kd.at_int (HS.rd 5 rfl) (Int.tmod t5.1 3) (of_eq_true c33) (of_eq_true c34)) | ((with_reducible refine gate_store (p := 36) rfl ?_); refine ev_st 4 1 HS (seg := [.int .i64 (rd ([(-1), 99, 100] : List Int) (Int.tmod t5.1 3))]) ?_; clear HS; intro w36 HS F) | ((with_reducible refine gate_store (p := 2) rfl ?_); refine ev_st 1 0 HS (seg := [.slice B11 t10.f0.length d11, .int .i64 (rd ([(-1), 99, 100] : List Int) (Int.tmod t5.1 3)), .int .i64 t10.f2, .int .i64 t10.f3, .int .i64 t10.f4, .bool t10.f5]) ?_; clear HS; intro w38 HS F))
  exact bodyPost_ret (results_single rfl (.cell _ _ _ _ _ rfl (HS.boxAt (i := 1) rfl) Tryz.underlying26 rfl (by kernel_rfl) .nil)) rfl ⟨_, rfl, HS.pick [0, 3] (by decide) (by rfl)⟩
 have c30a := beq_eq_false_iff_ne.mpr c30
 have c30b := bne_iff_ne.mpr c30
 clear c30
 replace H := zif' H; rcases H with ⟨c40, H⟩ | ⟨c40, H⟩
 case inl =>
  have c40a := beq_iff_eq.mpr c40
  have c40b := bne_eq_false_iff_eq.mpr c40
  clear c40
  obtain ⟨rfl, rfl⟩ := zsome2 H
  go_wp2_with (first | ((with_reducible refine gate_store (p := 41) rfl ?_); refine ev_st 4 2 HS (seg := [.int .i64 (Int.tmod t5.1 6)]) ?_; clear HS; intro w41 HS F) | ((with_reducible refine gate_store (p := 2) rfl ?_); refine ev_st 1 0 HS (seg := [.slice B11 t10.f0.length d11, .int .i64 t10.f1, .int .i64 (Int.tmod t5.1 6), .int .i64 t10.f3, .int .i64 t10.f4, .bool t10.f5]) ?_; clear HS; intro w43 HS F))
  exact bodyPost_ret (results_single rfl (.cell _ _ _ _ _ rfl (HS.boxAt (i := 1) rfl) Tryz.underlying26 rfl (by kernel_rfl) .nil)) rfl ⟨_, rfl, HS.pick [0, 3] (by decide) (by rfl)⟩
 have c40a := beq_eq_false_iff_ne.mpr c40
 have c40b := bne_iff_ne.mpr c40
 clear c40
 replace H := znif' H; rcases H with ⟨c45, H⟩ | ⟨c45, H⟩
 case inl =>
  have c45a := beq_eq_false_iff_ne.mpr c45
  have c45b := bne_iff_ne.mpr c45
  clear c45
  obtain ⟨rfl, rfl⟩ := zsome2 H
  go_wp2_with ((with_reducible refine gate_store (p := 2) rfl ?_); refine ev_st 1 0 HS (seg := [.slice B11 t10.f0.length d11, .int .i64 t10.f1, .int .i64 t10.f2, .int .i64 t10.f3, .int .i64 t10.f4, .bool t10.f5]) ?_; clear HS; intro w55 HS F)
  exact bodyPost_ret (results_single rfl (.cell _ _ _ _ _ rfl (HS.boxAt (i := 1) rfl) Tryz.underlying26 rfl (by kernel_rfl) .nil)) rfl ⟨_, rfl, HS.pick [0, 3] (by decide) (by rfl)⟩
 have c45a := beq_iff_eq.mpr c45
 have c45b := bne_eq_false_iff_eq.mpr c45
 clear c45
 replace H := zgo H; obtain ⟨c48, H⟩ := H
 replace H := zgo H; obtain ⟨c49, H⟩ := H
 obtain ⟨rfl, rfl⟩ := zsome2 H
 go_wp2_with (first | ((with_reducible refine gd 44 rfl ?_); refine ev_li (Zd.int .i64) [] ([(-1), 1000000000, 1000000001] : List Int) ([.int .i64 (-1)] ++ ([.int .i64 1000000000] ++ ([.int .i64 1000000001] ++ []))) HS (MadeL.cons (js1 := []) (c := [.int .i64 (-1)]) rfl (made_flat (fun _ => rfl)) (MadeL.cons (js1 := []) (c := [.int .i64 1000000000]) rfl (made_flat (fun _ => rfl)) (MadeL.cons (js1 := []) (c := [.int .i64 1000000001]) rfl (made_flat (fun _ => rfl)) MadeL.nil (by decide)) (by decide)) (by decide)) ?_; clear HS; intro v46 w46 HS F; obtain ⟨B46, d46, rfl, m46⟩ := HS.formn 3 5 rfl rfl; obtain ⟨ad50, rfl, e50_0⟩ := Kd.at_int (HS.rd 5 rfl) (Int.tmod t5.1 3) (of_eq_true c48) (of_eq_true c49)) | ((with_reducible refine gate_store (p := 49) rfl ?_); refine ev_st 4 3 HS (seg := [.int .i64 (rd ([(-1), 1000000000, 1000000001] : List Int) (Int.tmod t5.1 3))]) ?_; clear HS; intro w51 HS F) | ((with_reducible refine gate_store (p := 2) rfl ?_); refine ev_st 1 0 HS (seg := [.slice B11 t10.f0.length d11, .int .i64 t10.f1, .int .i64 t10.f2, .int .i64 (rd ([(-1), 1000000000, 1000000001] : List Int) (Int.tmod t5.1 3)), .int .i64 t10.f4, .bool t10.f5]) ?_; clear HS; intro w53 HS F))
 exact bodyPost_ret (results_single rfl (.cell _ _ _ _ _ rfl (HS.boxAt (i := 1) rfl) Tryz.underlying26 rfl (by kernel_rfl) .nil)) rfl ⟨_, rfl, HS.pick [0, 3] (by decide) (by rfl)⟩
def spec_l01New.l0 : Nat → Int → Int → (List Int) → Option (S110)
  | 0, _, _, _ => none
  | k + 1, x9, x10, a0 => (if x10 < (a0.length : Int) then (if x10 < 4000 then (if 0 ≤ x10 then (if x10 < (a0.length : Int) then (spec_l01New.l0 k (Go.bits .and .i64 (wrap64 ((wrap64 ((wrap64 (x9 * 131)) + (wrap64 (rd a0 x10)))) + 7)) 1073741823) (wrap64 (x10 + 1)) a0) else none) else none) else (some (⟨a0, 0, x9⟩ : S110))) else (some (⟨a0, 0, x9⟩ : S110)))
def spec_l01New.f (k : Nat) (a0 : (List Int)) : Option (S110) := (spec_l01New.l0 k (wrap64 (78401 + (a0.length : Int))) 0 a0)
theorem spec_l01New.calls {k : Nat} {a0 : (List Int)} {Ap0 : Option Addr} {np0 cp0 : Nat} {r : S110} {w : World} (h : spec_l01New.f k a0 = some r) (gp0 : (Kd.int .u8).C w Ap0 np0 a0) (lp0 : np0 ≤ cp0) :
    Calls Tryz.prog 29 #[.slice Ap0 np0 cp0] w (fun e w' => ∃ gq_ : Nat, e = .returned (.pointer (some ⟨gq_, 0, none⟩)) ∧ Hp noFP w w' [.box gq_ [.slice Ap0 np0 cp0, .int .i64 r.f1, .int .i64 r.f2] 110]) := by
 obtain rfl := C_len gp0
 have HS := Hp.start w
 have H := Aside0.mk h
 clear h
 unfold spec_l01New.f at H
 go_enter Tryz.func29, Tryz.ntmps29
 go_wp2
 go_loopg [3, 4] k (fun kq v_3 v_4 w' => ∃ (x9 : Int) (x10 : Int), v_3 = .int .i64 x9 ∧ v_4 = .int .i64 x10 ∧ Aside0 (spec_l01New.l0 kq x9 x10 a0 = some r) ∧ Aside0 (kq ≤ k) ∧ Hp noFP w w' [])
 case atStart => exact ⟨_, _, rfl, rfl, H, ⟨Nat.le_refl _⟩, HS⟩
 case round =>
  clear HS H; (try clear F)
  obtain ⟨x9, x10, rfl, rfl, H, HKk8, HS⟩ := hrel
  cases gk with
  | zero => exact absurd H.out (by simp [spec_l01New.l0])
  | succ k8 =>
   simp only [spec_l01New.l0] at H
   replace H := znif H; rcases H with ⟨c12, H⟩ | ⟨c12, H⟩
   case inl =>
    obtain rfl := zsome H
    go_wp2_with ((with_reducible refine gd 31 rfl ?_); refine ev_bx HS ?_; clear HS; intro g31 w31 HS F)
    exact bodyPost_ret (results_single rfl (.tmp .nil)) rfl ⟨_, rfl, HS.pick [0] (by decide) (by rfl)⟩
   replace H := znif H; rcases H with ⟨c13, H⟩ | ⟨c13, H⟩
   case inl =>
    obtain rfl := zsome H
    go_wp2_with ((with_reducible refine gd 31 rfl ?_); refine ev_bx HS ?_; clear HS; intro g31 w31 HS F)
    exact bodyPost_ret (results_single rfl (.tmp .nil)) rfl ⟨_, rfl, HS.pick [0] (by decide) (by rfl)⟩
   replace H := zgo H; obtain ⟨c14, H⟩ := H
   replace H := zgo H; obtain ⟨c15, H⟩ := H
   obtain ⟨ad16, rfl, e16_0⟩ := Kd.at_int gp0 x10 (of_eq_true c14) (of_eq_true c15)
   have e16_0_16 := HS.keepc e16_0
   go_wp2
   go_roundg k8
   case measure => have := HKk8.out; omega
   case rel => exact ⟨_, _, rfl, rfl, H, ⟨by have := HKk8.out; omega⟩, HS.pick [] (by decide) (by rfl)⟩
def spec_l02Spoilt_0.f (k : Nat) (a0 : S110) (a1 : ByteArray) : Option (ByteArray × S110) := ((spec_l01Below_0.f a0 12).bind fun t1 => (if t1.1 = 0 then ((spec_l01Text_0.f k (⟨a0.f0, t1.2.f1, t1.2.f2⟩ : S110) 1).bind fun t4 => (if a1.size + t4.1.size ≤ 9223372036854775807 then (some ((a1 ++ t4.1), (⟨a0.f0, t4.2.f1, t4.2.f2⟩ : S110))) else none)) else (if t1.1 = 1 then ((spec_l01Below_0.f (⟨a0.f0, t1.2.f1, t1.2.f2⟩ : S110) (wrap64 ((a1.size : Int) + 1))).bind fun t8 => (if 0 ≤ t8.1 then (if t8.1 ≤ (a1.size : Int) then (some ((a1.extract 0 (t8.1).toNat), (⟨a0.f0, t8.2.f1, t8.2.f2⟩ : S110))) else none) else none)) else (if t1.1 = 2 then (if 0 < (a1.size : Int) then ((spec_l01Below_0.f (⟨a0.f0, t1.2.f1, t1.2.f2⟩ : S110) (a1.size : Int)).bind fun t14 => (if 0 ≤ t14.1 then (if t14.1 ≤ (a1.size : Int) then ((spec_l01Text_0.f k (⟨a0.f0, t14.2.f1, t14.2.f2⟩ : S110) 1).bind fun t16 => (if (a1.extract 0 (t14.1).toNat).size + t16.1.size ≤ 9223372036854775807 then (if 0 ≤ (wrap64 (t14.1 + 1)) then (if (wrap64 (t14.1 + 1)) ≤ (a1.size : Int) then (if ((a1.extract 0 (t14.1).toNat) ++ t16.1).size + (a1.extract ((wrap64 (t14.1 + 1))).toNat a1.size).size ≤ 9223372036854775807 then (some ((((a1.extract 0 (t14.1).toNat) ++ t16.1) ++ (a1.extract ((wrap64 (t14.1 + 1))).toNat a1.size)), (⟨a0.f0, t16.2.f1, t16.2.f2⟩ : S110))) else none) else none) else none) else none)) else none) else none)) else (some (a1, (⟨a0.f0, t1.2.f1, t1.2.f2⟩ : S110)))) else (if t1.1 = 3 then (if 0 < (a1.size : Int) then ((spec_l01Below_0.f (⟨a0.f0, t1.2.f1, t1.2.f2⟩ : S110) (a1.size : Int)).bind fun t21 => (if 0 ≤ t21.1 then (if t21.1 ≤ (a1.size : Int) then ((spec_l01Text_0.f k (⟨a0.f0, t21.2.f1, t21.2.f2⟩ : S110) 1).bind fun t28 => (if (a1.extract 0 (t21.1).toNat).size + t28.1.size ≤ 9223372036854775807 then (if 0 ≤ (wrap64 (t21.1 + 1)) then (if (wrap64 (t21.1 + 1)) ≤ (a1.size : Int) then (if ((a1.extract 0 (t21.1).toNat) ++ t28.1).size + (a1.extract ((wrap64 (t21.1 + 1))).toNat a1.size).size ≤ 9223372036854775807 then (some ((((a1.extract 0 (t21.1).toNat) ++ t28.1) ++ (a1.extract ((wrap64 (t21.1 + 1))).toNat a1.size)), (⟨a0.f0, t28.2.f1, t28.2.f2⟩ : S110))) else none) else none) else none) else none)) else none) else none)) else (some (a1, (⟨a0.f0, t1.2.f1, t1.2.f2⟩ : S110)))) else (some (a1, (⟨a0.f0, t1.2.f1, t1.2.f2⟩ : S110))))))))
def spec_l02Spoilt_0.T10 : TT := (true, [([], []), ([], []), ([0, 1], [0, 1]), ([], []), ([3], [3]), ([2, 4], [2, 4]), ([], []), ([], []), ([7], [7]), ([6, 8], [6, 8]), ([5, 9], [5, 9]), ([10, 4, 0, 1, 2, 3, 4, 5, 6, 7, 8, 9, 10], [10])])
theorem spec_l02Spoilt_0.tT10 : rtab .any (opsOf Tryz.f46 10) = spec_l02Spoilt_0.T10 := by kernel_rfl
theorem spec_l02Spoilt_0.calls {k : Nat} {a0 : S110} {a1 : ByteArray} {A : FP} {p0 : Nat} {Ap1 : Option Addr} {np1 cp1 : Nat} {wv : World} {r1 : ByteArray} {r2 : S110} {w : World} (h : spec_l02Spoilt_0.f k a0 a1 = some (r1, r2)) (gp1 : (Kd.int .u8).C wv Ap1 np1 a0.f0) (lp1 : np1 ≤ cp1) (hV : View A w wv) (HS : Hp A w w [.box p0 [.slice Ap1 np1 cp1, .int .i64 a0.f1, .int .i64 a0.f2] 110]) :
    Calls Tryz.prog 46 #[.pointer (some ⟨p0, 0, none⟩), .string a1] w (fun e w' => e = .returned (.string r1) ∧ Hp A w w' [.box p0 [.slice Ap1 np1 cp1, .int .i64 r2.f1, .int .i64 r2.f2] 110]) := by
 obtain rfl := C_len gp1
 have H := Aside0.mk h
 clear h
 unfold spec_l02Spoilt_0.f at H
 go_enter Tryz.func46, Tryz.ntmps46
 have F := HS.boxes; simp only [bxn] at F
 replace H := zbind H; obtain ⟨t1, ht1, H⟩ := H
 go_upto_if 8 with ((with_reducible refine gd 7 rfl ?_); refine HS.lend [0] (by decide) [.box p0 [.slice Ap1 a0.f0.length cp1, .int .i64 a0.f1, .int .i64 a0.f2] 110] rfl (fun A' HL HD HA HB => ?_); refine ev_lc (spec_l01Below_0.calls ht1.out gp1 lp1 (hV.lend HS HL) HA) (fun _ HQ => HB _ _ HQ (Nat.le_of_ble_eq_true rfl)) Tryz.func45 ?_; clear HS HA HB HL HD; intro wt1 HS F)
 replace H := zif' H; rcases H with ⟨c3, H⟩ | ⟨c3, H⟩
 case inl =>
  have c3a := beq_iff_eq.mpr c3
  have c3b := bne_eq_false_iff_eq.mpr c3
  clear c3
  (try simp only [c3a, c3b, dcn])
  replace H := zbind H; obtain ⟨t4, ht4, H⟩ := H
  replace H := zgo H; obtain ⟨c6, H⟩ := H
  obtain ⟨rfl, rfl⟩ := zsome2 H
  go_wp2_with (first | ((with_reducible refine gd 12 rfl ?_); refine HS.lend [0] (by decide) [.box p0 [.slice Ap1 a0.f0.length cp1, .int .i64 t1.2.f1, .int .i64 t1.2.f2] 110] rfl (fun A' HL HD HA HB => ?_); refine ev_lc (spec_l01Text_0.calls ht4.out gp1 lp1 (hV.lend HS HL) HA) (fun _ HQ => HB _ _ HQ (Nat.le_of_ble_eq_true rfl)) Tryz.func80 ?_; clear HS HA HB HL HD; intro wt4 HS F) | ((with_reducible refine gd 13 rfl ?_); refine ev_val rfl (run_cat rfl rfl rfl (of_eq_true c6)) ?_))
  go_ret
  exact ⟨rfl, HS.pick [0] (by decide) (by rfl)⟩
 have c3a := beq_eq_false_iff_ne.mpr c3
 have c3b := bne_iff_ne.mpr c3
 clear c3
 (try simp only [c3a, c3b, dcn])
 replace H := zif' H; rcases H with ⟨c7, H⟩ | ⟨c7, H⟩
 case inl =>
  have c7a := beq_iff_eq.mpr c7
  have c7b := bne_eq_false_iff_eq.mpr c7
  clear c7
  replace H := zbind H; obtain ⟨t8, ht8, H⟩ := H
  replace H := zgo H; obtain ⟨c10, H⟩ := H
  replace H := zgo H; obtain ⟨c11, H⟩ := H
  obtain ⟨rfl, rfl⟩ := zsome2 H
  go_wp2_with (first | ((with_reducible refine gd 21 rfl ?_); refine HS.lend [0] (by decide) [.box p0 [.slice Ap1 a0.f0.length cp1, .int .i64 t1.2.f1, .int .i64 t1.2.f2] 110] rfl (fun A' HL HD HA HB => ?_); refine ev_lc (spec_l01Below_0.calls ht8.out gp1 lp1 (hV.lend HS HL) HA) (fun _ HQ => HB _ _ HQ (Nat.le_of_ble_eq_true rfl)) Tryz.func45 ?_; clear HS HA HB HL HD; intro wt8 HS F) | ((with_reducible refine gd 22 rfl ?_); refine ev_val rfl (run_cut rfl rfl Tryz.underlying9 (.inl ⟨rfl, rfl⟩) (.inr ⟨_, _, rfl, rfl, by have := of_eq_true (eq_true (by decide : (0:Int) ≤ 0)); have := of_eq_true c10; have := of_eq_true c11; omega⟩) (by have := of_eq_true (eq_true (by decide : (0:Int) ≤ 0)); have := of_eq_true c10; have := of_eq_true c11; omega) (by have := of_eq_true (eq_true (by decide : (0:Int) ≤ 0)); have := of_eq_true c10; have := of_eq_true c11; omega)) ?_))
  go_ret
  exact ⟨rfl, HS.pick [0] (by decide) (by rfl)⟩
 have c7a := beq_eq_false_iff_ne.mpr c7
 have c7b := bne_iff_ne.mpr c7
 clear c7
 replace H := zif' H; rcases H with ⟨c12, H⟩ | ⟨c12, H⟩
 case inl =>
  have c12a := beq_iff_eq.mpr c12
  have c12b := bne_eq_false_iff_eq.mpr c12
  clear c12
  replace H := znif H; rcases H with ⟨c13, H⟩ | ⟨c13, H⟩
  case inl =>
   have c13n := (propext (Int.natCast_pos (n := a1.size))).symm.trans c13
   obtain ⟨rfl, rfl⟩ := zsome2 H
   go_wp2
   go_ret
   exact ⟨rfl, HS.pick [0] (by decide) (by rfl)⟩
  have c13n := (propext (Int.natCast_pos (n := a1.size))).symm.trans c13
  replace H := zbind H; obtain ⟨t14, ht14, H⟩ := H
  go_wp2_with ((with_reducible refine gd 32 rfl ?_); refine HS.lend [0] (by decide) [.box p0 [.slice Ap1 a0.f0.length cp1, .int .i64 t1.2.f1, .int .i64 t1.2.f2] 110] rfl (fun A' HL HD HA HB => ?_); refine ev_lc (spec_l01Below_0.calls ht14.out gp1 lp1 (hV.lend HS HL) HA) (fun _ HQ => HB _ _ HQ (Nat.le_of_ble_eq_true rfl)) Tryz.func45 ?_; clear HS HA HB HL HD; intro wt14 HS F)
  replace H := zgo H; obtain ⟨c5, H⟩ := H
  replace H := zgo H; obtain ⟨c15, H⟩ := H
  replace H := zbind H; obtain ⟨t16, ht16, H⟩ := H
  replace H := zgo H; obtain ⟨c18, H⟩ := H
  replace H := zgo H; obtain ⟨c22, H⟩ := H
  replace H := zgo H; obtain ⟨c23, H⟩ := H
  replace H := zgo H; obtain ⟨c25, H⟩ := H
  refine dr_start2 [.emp] [] HS (HS.arr [none] (by decide)) #[false, false, false, false, false, false, false, false, false, false, false, false] (by kernel_rfl) rfl rfl spec_l02Spoilt_0.tT10 (fun w17 HT HS HH => ?_)
  (try clear F)
  refine drq_of [(0, some 33), (1, some 34)] ?_
  repeat (refine drp HT ?_)
  refine drq_end ?_
  refine dr_pure 2 (some 35) HT (v := .string (a1.extract 0 (t14.1).toNat)) (a' := ?_) rfl rfl (by kernel_rfl) (fun _ _ _ h => h) (.inl ⟨by rfl, fun w' => (run_cut rfl rfl Tryz.underlying9 (.inl ⟨rfl, rfl⟩) (.inr ⟨_, _, rfl, rfl, by have := of_eq_true (eq_true (by decide : (0:Int) ≤ 0)); have := of_eq_true c5; have := of_eq_true c15; omega⟩) (by have := of_eq_true (eq_true (by decide : (0:Int) ≤ 0)); have := of_eq_true c5; have := of_eq_true c15; omega) (by have := of_eq_true (eq_true (by decide : (0:Int) ≤ 0)); have := of_eq_true c5; have := of_eq_true c15; omega))⟩) ?_ ?_
  rotate_left
  · simp only [Act.put, ptn]; rfl
  refine drq_of [(3, some 36), (6, some 39), (7, some 40), (8, some 41)] ?_
  repeat (refine drp HT ?_)
  refine drq_end ?_
  refine dr_pure 9 (some 42) HT (v := .string (a1.extract ((wrap64 (t14.1 + 1))).toNat a1.size)) (a' := ?_) rfl rfl (by kernel_rfl) (fun _ _ _ h => h) (.inl ⟨by rfl, fun w' => (run_cut rfl rfl Tryz.underlying9 (.inr ⟨_, _, rfl, rfl, of_eq_true c22⟩) (.inl ⟨rfl, rfl⟩) (by have := of_eq_true c22; have := of_eq_true c23; have := of_eq_true (eq_true (Int.le_refl (a1.size : Int))); omega) (by have := of_eq_true c22; have := of_eq_true c23; have := of_eq_true (eq_true (Int.le_refl (a1.size : Int))); omega))⟩) ?_ ?_
  rotate_left
  · simp only [Act.put, ptn]; rfl
  refine dr1 4 HT fun K hK => ?_
  refine HS.lend [0] (by decide) [.box p0 [.slice Ap1 a0.f0.length cp1, .int .i64 t14.2.f1, .int .i64 t14.2.f2] 110] rfl (fun A' HL HD HA HB => ?_); refine goes_ Tryz.func80 (by kernel_rfl) rfl #[.pointer (some ⟨p0, 0, none⟩), .int .i64 1] (by rfl) rfl rfl (by simp only [mpn]; rfl) ?_; refine (spec_l01Text_0.calls ht16.out gp1 lp1 (hV.lend HS HL) HA).mono ?_; rintro _ wt16 ⟨rfl, HQ⟩; refine ⟨_, rfl, ?_⟩; replace HS := HB _ _ HQ (Nat.le_of_ble_eq_true rfl); clear HQ HA HB HL HD; (try simp only [hpn, hpm] at HS); (try clear F)
  (try simp only [hpn, hpm] at HS)
  have F := HS.boxes; simp only [bxn] at F
  refine hK.out _ _ ⟨[], HS.arr [none] (by decide)⟩ (fun HH => ?_)
  clear hK K
  refine norm_ (a' := ?_) ?_ ?_
  rotate_left
  · show Act.put _ (some 37) _ = _; simp only [Act.put, ptn]; rfl
  refine dr_pure 5 (some 38) HT (v := .string ((a1.extract 0 (t14.1).toNat) ++ t16.1)) (a' := ?_) rfl rfl (by kernel_rfl) (fun _ _ _ h => h) (.inl ⟨by rfl, fun w' => (run_cat rfl rfl rfl (of_eq_true c18))⟩) ?_ ?_
  rotate_left
  · simp only [Act.put, ptn]; rfl
  refine dr_pure 10 (some 43) HT (v := .string (((a1.extract 0 (t14.1).toNat) ++ t16.1) ++ (a1.extract ((wrap64 (t14.1 + 1))).toNat a1.size))) (a' := ?_) rfl rfl (by kernel_rfl) (fun _ _ _ h => h) (.inl ⟨by rfl, fun w' => (run_cat rfl rfl rfl (of_eq_true c25))⟩) ?_ ?_
  rotate_left
  · simp only [Act.put, ptn]; rfl
  refine drq_of [(11, some 4)] ?_
  repeat (refine drp HT ?_)
  refine drq_end ?_
  refine done_ (done_of HT.out (by kernel_rfl)) ?_
  (try clear F)
  have F := HS.boxes; simp only [bxn] at F
  obtain ⟨rfl, rfl⟩ := zsome2 H
  go_wp2
  go_ret
  exact ⟨rfl, HS.pick [0] (by decide) (by rfl)⟩
 have c12a := beq_eq_false_iff_ne.mpr c12
 have c12b := bne_iff_ne.mpr c12
 clear c12
 replace H := znif' H; rcases H with ⟨c19, H⟩ | ⟨c19, H⟩
 case inl =>
  have c19a := beq_eq_false_iff_ne.mpr c19
  have c19b := bne_iff_ne.mpr c19
  clear c19
  obtain ⟨rfl, rfl⟩ := zsome2 H
  go_wp2
  go_ret
  exact ⟨rfl, HS.pick [0] (by decide) (by rfl)⟩
 have c19a := beq_iff_eq.mpr c19
 have c19b := bne_eq_false_iff_eq.mpr c19
 clear c19
 replace H := znif H; rcases H with ⟨c20, H⟩ | ⟨c20, H⟩
 case inl =>
  have c20n := (propext (Int.natCast_pos (n := a1.size))).symm.trans c20
  obtain ⟨rfl, rfl⟩ := zsome2 H
  go_wp2
  go_ret
  exact ⟨rfl, HS.pick [0] (by decide) (by rfl)⟩
 have c20n := (propext (Int.natCast_pos (n := a1.size))).symm.trans c20
 replace H := zbind H; obtain ⟨t21, ht21, H⟩ := H
 go_wp2_with ((with_reducible refine gd 32 rfl ?_); refine HS.lend [0] (by decide) [.box p0 [.slice Ap1 a0.f0.length cp1, .int .i64 t1.2.f1, .int .i64 t1.2.f2] 110] rfl (fun A' HL HD HA HB => ?_); refine ev_lc (spec_l01Below_0.calls ht21.out gp1 lp1 (hV.lend HS HL) HA) (fun _ HQ => HB _ _ HQ (Nat.le_of_ble_eq_true rfl)) Tryz.func45 ?_; clear HS HA HB HL HD; intro wt21 HS F)
 replace H := zgo H; obtain ⟨c26, H⟩ := H
 replace H := zgo H; obtain ⟨c27, H⟩ := H
 replace H := zbind H; obtain ⟨t28, ht28, H⟩ := H
 replace H := zgo H; obtain ⟨c29, H⟩ := H
 replace H := zgo H; obtain ⟨c30, H⟩ := H
 replace H := zgo H; obtain ⟨c31, H⟩ := H
 replace H := zgo H; obtain ⟨c32, H⟩ := H
 refine dr_start2 [.emp] [] HS (HS.arr [none] (by decide)) #[false, false, false, false, false, false, false, false, false, false, false, false] (by kernel_rfl) rfl rfl spec_l02Spoilt_0.tT10 (fun w24 HT HS HH => ?_)
 (try clear F)
 refine drq_of [(0, some 33), (1, some 34)] ?_
 repeat (refine drp HT ?_)
 refine drq_end ?_
 refine dr_pure 2 (some 35) HT (v := .string (a1.extract 0 (t21.1).toNat)) (a' := ?_) rfl rfl (by kernel_rfl) (fun _ _ _ h => h) (.inl ⟨by rfl, fun w' => (run_cut rfl rfl Tryz.underlying9 (.inl ⟨rfl, rfl⟩) (.inr ⟨_, _, rfl, rfl, by have := of_eq_true (eq_true (by decide : (0:Int) ≤ 0)); have := of_eq_true c26; have := of_eq_true c27; omega⟩) (by have := of_eq_true (eq_true (by decide : (0:Int) ≤ 0)); have := of_eq_true c26; have := of_eq_true c27; omega) (by have := of_eq_true (eq_true (by decide : (0:Int) ≤ 0)); have := of_eq_true c26; have := of_eq_true c27; omega))⟩) ?_ ?_
 rotate_left
 · simp only [Act.put, ptn]; rfl
 refine drq_of [(3, some 36), (6, some 39), (7, some 40), (8, some 41)] ?_
 repeat (refine drp HT ?_)
 refine drq_end ?_
 refine dr_pure 9 (some 42) HT (v := .string (a1.extract ((wrap64 (t21.1 + 1))).toNat a1.size)) (a' := ?_) rfl rfl (by kernel_rfl) (fun _ _ _ h => h) (.inl ⟨by rfl, fun w' => (run_cut rfl rfl Tryz.underlying9 (.inr ⟨_, _, rfl, rfl, of_eq_true c30⟩) (.inl ⟨rfl, rfl⟩) (by have := of_eq_true c30; have := of_eq_true c31; have := of_eq_true (eq_true (Int.le_refl (a1.size : Int))); omega) (by have := of_eq_true c30; have := of_eq_true c31; have := of_eq_true (eq_true (Int.le_refl (a1.size : Int))); omega))⟩) ?_ ?_
 rotate_left
 · simp only [Act.put, ptn]; rfl
 refine dr1 4 HT fun K hK => ?_
 refine HS.lend [0] (by decide) [.box p0 [.slice Ap1 a0.f0.length cp1, .int .i64 t21.2.f1, .int .i64 t21.2.f2] 110] rfl (fun A' HL HD HA HB => ?_); refine goes_ Tryz.func80 (by kernel_rfl) rfl #[.pointer (some ⟨p0, 0, none⟩), .int .i64 1] (by rfl) rfl rfl (by simp only [mpn]; rfl) ?_; refine (spec_l01Text_0.calls ht28.out gp1 lp1 (hV.lend HS HL) HA).mono ?_; rintro _ wt28 ⟨rfl, HQ⟩; refine ⟨_, rfl, ?_⟩; replace HS := HB _ _ HQ (Nat.le_of_ble_eq_true rfl); clear HQ HA HB HL HD; (try simp only [hpn, hpm] at HS); (try clear F)
 (try simp only [hpn, hpm] at HS)
 have F := HS.boxes; simp only [bxn] at F
 refine hK.out _ _ ⟨[], HS.arr [none] (by decide)⟩ (fun HH => ?_)
 clear hK K
 refine norm_ (a' := ?_) ?_ ?_
 rotate_left
 · show Act.put _ (some 37) _ = _; simp only [Act.put, ptn]; rfl
 refine dr_pure 5 (some 38) HT (v := .string ((a1.extract 0 (t21.1).toNat) ++ t28.1)) (a' := ?_) rfl rfl (by kernel_rfl) (fun _ _ _ h => h) (.inl ⟨by rfl, fun w' => (run_cat rfl rfl rfl (of_eq_true c29))⟩) ?_ ?_
 rotate_left
 · simp only [Act.put, ptn]; rfl
 refine dr_pure 10 (some 43) HT (v := .string (((a1.extract 0 (t21.1).toNat) ++ t28.1) ++ (a1.extract ((wrap64 (t21.1 + 1))).toNat a1.size))) (a' := ?_) rfl rfl (by kernel_rfl) (fun _ _ _ h => h) (.inl ⟨by rfl, fun w' => (run_cat rfl rfl rfl (of_eq_true c32))⟩) ?_ ?_
 rotate_left
 · simp only [Act.put, ptn]; rfl
 refine drq_of [(11, some 4)] ?_
 repeat (refine drp HT ?_)
 refine drq_end ?_
 refine done_ (done_of HT.out (by kernel_rfl)) ?_
 (try clear F)
 have F := HS.boxes; simp only [bxn] at F
 obtain ⟨rfl, rfl⟩ := zsome2 H
 go_wp2
 go_ret
 exact ⟨rfl, HS.pick [0] (by decide) (by rfl)⟩
def spec_AskOk.l0 : Nat → Int → S26 → Option (Bool)
  | 0, _, _ => none
  | k + 1, x6, a0 => (if x6 < (a0.f0.length : Int) then (if 0 ≤ x6 then (if x6 < (a0.f0.length : Int) then (if 400 < ((rdOf ByteArray.empty a0.f0 x6).size : Int) then (some false) else (spec_AskOk.l0 k (wrap64 (x6 + 1)) a0)) else none) else none) else ((spec_l01In.f (a0.f0.length : Int) 1 3).bind fun t13 => (if t13 = true then ((spec_l01In.f a0.f1 0 99).bind fun t16 => (if t16 = true then ((spec_l01In.f a0.f2 0 3).bind fun t19 => (if t19 = true then ((spec_l01In.f a0.f3 0 1000000000).bind fun t22 => (if t22 = true then ((spec_l09Num.f a0.f4).bind fun t25 => (some t25)) else (some false))) else (some false))) else (some false))) else (some false))))
def spec_AskOk.f (k : Nat) (a0 : S26) : Option (Bool) := (spec_AskOk.l0 k 0 a0)
theorem spec_AskOk.calls {k : Nat} {a0 : S26} {Ap0 : Option Addr} {np0 cp0 : Nat} {r : Bool} {w : World} (h : spec_AskOk.f k a0 = some r) (gp0 : Kd.string.C w Ap0 np0 a0.f0) (lp0 : np0 ≤ cp0) :
    Calls Tryz.prog 13 #[.agg #[.slice Ap0 np0 cp0, .int .i64 a0.f1, .int .i64 a0.f2, .int .i64 a0.f3, .int .i64 a0.f4, .bool a0.f5]] w (fun e w' => e = .returned (.bool r) ∧ Hp noFP w w' []) := by
 obtain rfl := C_len gp0
 have HS := Hp.start w
 have H := Aside0.mk h
 clear h
 unfold spec_AskOk.f at H
 go_enter Tryz.func13, Tryz.ntmps13
 go_wp2_with ((with_reducible refine gd 1 rfl ?_); refine ev_bx HS ?_; clear HS; intro g1 w1 HS F)
 go_loopg [3] k (fun kq v_3 w' => ∃ (x6 : Int), v_3 = .int .i64 x6 ∧ Aside0 (spec_AskOk.l0 kq x6 a0 = some r) ∧ Aside0 (kq ≤ k) ∧ Hp noFP w w' [.box g1 [.slice Ap0 a0.f0.length cp0, .int .i64 a0.f1, .int .i64 a0.f2, .int .i64 a0.f3, .int .i64 a0.f4, .bool a0.f5] 26])
 case atStart => exact ⟨_, rfl, H, ⟨Nat.le_refl _⟩, HS⟩
 case round =>
  clear HS H; (try clear F)
  obtain ⟨x6, rfl, H, HKk5, HS⟩ := hrel
  have F := HS.boxes; simp only [bxn] at F
  cases gk with
  | zero => exact absurd H.out (by simp [spec_AskOk.l0])
  | succ k5 =>
   simp only [spec_AskOk.l0] at H
   replace H := zif H; rcases H with ⟨c8, H⟩ | ⟨c8, H⟩
   case inl =>
    replace H := zgo H; obtain ⟨c9, H⟩ := H
    replace H := zgo H; obtain ⟨c10, H⟩ := H
    obtain ⟨ad11, rfl, e11_0⟩ := Kd.at_string gp0 x6 (of_eq_true c9) (of_eq_true c10)
    have e11_0_11 := HS.keepc e11_0
    replace H := zif H; rcases H with ⟨c12, H⟩ | ⟨c12, H⟩
    case inl =>
     obtain rfl := zsome H
     go_wp2
     go_ret
     exact HS.pk
    go_wp2
    go_roundg k5
    case measure => have := HKk5.out; omega
    case rel => exact ⟨_, rfl, H, ⟨by have := HKk5.out; omega⟩, HS.pick [0] (by decide) (by rfl)⟩
   replace H := zbind H; obtain ⟨t13, ht13, H⟩ := H
   replace H := znifb H; rcases H with ⟨c15, H⟩ | ⟨c15, H⟩
   case inl =>
    subst c15
    obtain rfl := zsome H
    go_wp2_with ((with_reducible refine gd 21 rfl ?_); refine ev_cl HS (spec_l01In.calls ht13.out) Tryz.func54 ?_; clear HS; intro wt13 HS F)
    go_ret
    exact HS.pk
   subst c15
   replace H := zbind H; obtain ⟨t16, ht16, H⟩ := H
   replace H := znifb H; rcases H with ⟨c18, H⟩ | ⟨c18, H⟩
   case inl =>
    subst c18
    obtain rfl := zsome H
    go_wp2_with (first | ((with_reducible refine gd 21 rfl ?_); refine ev_cl HS (spec_l01In.calls ht13.out) Tryz.func54 ?_; clear HS; intro wt13 HS F) | ((with_reducible refine gd 25 rfl ?_); refine gg ?_; refine ev_cl HS (spec_l01In.calls ht16.out) Tryz.func54 ?_; clear HS; intro wt16 HS F))
    go_ret
    exact HS.pk
   subst c18
   replace H := zbind H; obtain ⟨t19, ht19, H⟩ := H
   replace H := znifb H; rcases H with ⟨c21, H⟩ | ⟨c21, H⟩
   case inl =>
    subst c21
    obtain rfl := zsome H
    go_wp2_with (first | ((with_reducible refine gd 21 rfl ?_); refine ev_cl HS (spec_l01In.calls ht13.out) Tryz.func54 ?_; clear HS; intro wt13 HS F) | ((with_reducible refine gd 25 rfl ?_); refine gg ?_; refine ev_cl HS (spec_l01In.calls ht16.out) Tryz.func54 ?_; clear HS; intro wt16 HS F) | ((with_reducible refine gd 30 rfl ?_); refine gg ?_; refine ev_cl HS (spec_l01In.calls ht19.out) Tryz.func54 ?_; clear HS; intro wt19 HS F))
    go_ret
    exact HS.pk
   subst c21
   replace H := zbind H; obtain ⟨t22, ht22, H⟩ := H
   replace H := znifb H; rcases H with ⟨c24, H⟩ | ⟨c24, H⟩
   case inl =>
    subst c24
    obtain rfl := zsome H
    go_wp2_with (first | ((with_reducible refine gd 21 rfl ?_); refine ev_cl HS (spec_l01In.calls ht13.out) Tryz.func54 ?_; clear HS; intro wt13 HS F) | ((with_reducible refine gd 25 rfl ?_); refine gg ?_; refine ev_cl HS (spec_l01In.calls ht16.out) Tryz.func54 ?_; clear HS; intro wt16 HS F) | ((with_reducible refine gd 30 rfl ?_); refine gg ?_; refine ev_cl HS (spec_l01In.calls ht19.out) Tryz.func54 ?_; clear HS; intro wt19 HS F) | ((with_reducible refine gd 35 rfl ?_); refine gg ?_; refine ev_cl HS (spec_l01In.calls ht22.out) Tryz.func54 ?_; clear HS; intro wt22 HS F))
    go_ret
    exact HS.pk
   subst c24
   replace H := zbind H; obtain ⟨t25, ht25, H⟩ := H
   obtain rfl := zsome H
   go_wp2_with (first | ((with_reducible refine gd 21 rfl ?_); refine ev_cl HS (spec_l01In.calls ht13.out) Tryz.func54 ?_; clear HS; intro wt13 HS F) | ((with_reducible refine gd 25 rfl ?_); refine gg ?_; refine ev_cl HS (spec_l01In.calls ht16.out) Tryz.func54 ?_; clear HS; intro wt16 HS F) | ((with_reducible refine gd 30 rfl ?_); refine gg ?_; refine ev_cl HS (spec_l01In.calls ht19.out) Tryz.func54 ?_; clear HS; intro wt19 HS F) | ((with_reducible refine gd 35 rfl ?_); refine gg ?_; refine ev_cl HS (spec_l01In.calls ht22.out) Tryz.func54 ?_; clear HS; intro wt22 HS F) | ((with_reducible refine gd 40 rfl ?_); refine gg ?_; refine ev_cl HS (spec_l09Num.calls ht25.out) Tryz.func55 ?_; clear HS; intro wt25 HS F))
   go_ret
   exact HS.pk
def spec_l14Texts.l0 : Nat → (List S66) → Int → (List ByteArray) → Option (S66)
  | 0, _, _, _ => none
  | k + 1, l19, x21, a0 => (if x21 < (a0.length : Int) then (if 0 ≤ x21 then (if x21 < (a0.length : Int) then ((spec_l09Bytes.f (rdOf ByteArray.empty a0 x21)).bind fun t9 => (if l19.length + 1 ≤ 2932031007402 then (lets (l19 ++ ([t9] : List S66)) fun y13 => (spec_l14Texts.l0 k y13 (wrap64 (x21 + 1)) a0)) else none)) else none) else none) else (some (⟨48, (⟨#[]⟩ : ByteArray), l19⟩ : S66)))
def spec_l14Texts.f (k : Nat) (a0 : (List ByteArray)) : Option (S66) := (spec_l14Texts.l0 k [] 0 a0)
def spec_l14Texts.T5 : TT := (true, [([], []), ([0], [0]), ([], []), ([], []), ([2, 3], [2, 3]), ([4], [4]), ([5], [5]), ([6], [6]), ([1, 7, 6], [1, 7]), ([0, 1, 2, 3, 4, 5, 6, 7, 8], []), ([9, 8, 8, 0, 1, 2, 3, 4, 5, 6, 7, 8], [8, 9])])
theorem spec_l14Texts.tT5 : rtab .any (opsOf Tryz.f37 5) = spec_l14Texts.T5 := by kernel_rfl
theorem spec_l14Texts.calls {k : Nat} {a0 : (List ByteArray)} {Ap0 : Option Addr} {np0 cp0 : Nat} {r : S66} {w : World} (h : spec_l14Texts.f k a0 = some r) (gp0 : Kd.string.C w Ap0 np0 a0) (lp0 : np0 ≤ cp0) :
    Calls Tryz.prog 37 #[.slice Ap0 np0 cp0] w (fun e w' => ∃ v0_ : Value, e = .returned (.agg #[.int .i64 r.f0, .string r.f1, v0_]) ∧ Hp noFP w w' [.own (Zd.slice 66 q66) r.f2 [v0_]]) := by
 obtain rfl := C_len gp0
 have HS := Hp.start w
 have H := Aside0.mk h
 clear h
 unfold spec_l14Texts.f at H
 go_enter Tryz.func37, Tryz.ntmps37
 go_wp2_with (first | ((with_reducible refine gd 2 rfl ?_); refine ev_bx HS ?_; clear HS; intro g2 w2 HS F) | ((with_reducible refine gd 3 rfl ?_); refine ev_bx HS ?_; clear HS; intro g3 w3 HS F) | ((with_reducible refine gate_store (p := 3) rfl ?_); refine ev_st 1 0 HS (seg := [.int .i64 48, .string (⟨#[]⟩ : ByteArray), .slice none 0 0]) ?_; clear HS; intro w5 HS F))
 replace HS := HS.nil 66 q66
 go_loopg [4] k (fun kq v_4 w' => ∃ (l19 : List S66) (v20 : Value) (x21 : Int), v_4 = .int .i64 x21 ∧ Aside0 (spec_l14Texts.l0 kq l19 x21 a0 = some r) ∧ Aside0 (kq ≤ k) ∧ Hp noFP w w' [.box g2 [.int .i64 0, .string (⟨#[]⟩ : ByteArray), .slice none 0 0] 66, .box g3 [.int .i64 48, .string (⟨#[]⟩ : ByteArray), v20] 66, .own (Zd.slice 66 q66) l19 [v20]])
 case atStart => exact ⟨_, _, _, rfl, H, ⟨Nat.le_refl _⟩, HS⟩
 case round =>
  clear HS H; (try clear F)
  obtain ⟨l19, v20, x21, rfl, H, HKk18, HS⟩ := hrel
  obtain ⟨B20, d20, rfl, m20⟩ := HS.form 2 rfl
  have F := HS.boxes; simp only [bxn] at F
  cases gk with
  | zero => exact absurd H.out (by simp [spec_l14Texts.l0])
  | succ k18 =>
   simp only [spec_l14Texts.l0] at H
   replace H := znif H; rcases H with ⟨c23, H⟩ | ⟨c23, H⟩
   case inl =>
    obtain rfl := zsome H
    go_wp2_with ((with_reducible refine gate_store (p := 2) rfl ?_); refine ev_st 0 0 HS (seg := [.int .i64 48, .string (⟨#[]⟩ : ByteArray), .slice B20 l19.length d20]) ?_; clear HS; intro w27 HS F)
    exact bodyPost_ret (results_single rfl (.cell _ _ _ _ _ rfl (HS.boxAt (i := 0) rfl) Tryz.underlying66 rfl (by kernel_rfl) .nil)) rfl ⟨_, rfl, HS.pick [2] (by decide) (by rfl)⟩
   (try go_wp2)
   replace H := zgo H; obtain ⟨c6, H⟩ := H
   replace H := zgo H; obtain ⟨c7, H⟩ := H
   obtain ⟨ad8, rfl, e8_0⟩ := Kd.at_string gp0 x21 (of_eq_true c6) (of_eq_true c7)
   replace H := zbind H; obtain ⟨t9, ht9, H⟩ := H
   replace H := zgo H; obtain ⟨c12, H⟩ := H
   replace H := zlets H; obtain ⟨y13, e_y13, H⟩ := H
   refine dr_start2 [.box g2 [.int .i64 0, .string (⟨#[]⟩ : ByteArray), .slice none 0 0] 66, .box g3 [.int .i64 48, .string (⟨#[]⟩ : ByteArray), .slice B20 l19.length d20] 66, .emp] [10] HS (HS.arr [some 0, some 1, none] (by decide)) #[false, false, false, false, false, false, false, false, false, false, false] (by kernel_rfl) rfl rfl spec_l14Texts.tT5 (fun w25 HT HS HH => ?_)
   (try clear F)
   refine drq_of [(0, some 12), (1, some 13), (2, some 14), (3, some 15), (4, some 16)] ?_
   repeat (first | refine drp HT ?_ | refine drt HT HH ?_)
   refine drq_end ?_
   refine dr_take 5 (some 17) HT HH (v := ?_) (a' := ?_) rfl rfl (by kernel_rfl) (fun _ _ _ h => h) (.inl ⟨by rfl, ?_⟩) ?_ ?_
   rotate_left
   · rintro w' ⟨rs', HS'⟩; have e8_0 := HS'.keepc e8_0; go_simp; with_reducible rfl
   rotate_left
   · simp only [Act.put, ptn]; rfl
   refine dr1 6 HT fun K hK => ?_
   refine go_cl1 HS (spec_l09Bytes.calls ht9.out) Tryz.func75 ?_; clear HS; intro v10 wt9 HS F; obtain ⟨B10, d10, rfl, m10⟩ := HS.form 3 rfl
   refine hK.out _ _ ⟨[], HS.arr [some 0, some 1, none] (by decide)⟩ (fun HH => ?_)
   clear hK K
   refine norm_ (a' := ?_) ?_ ?_
   rotate_left
   · show Act.put _ (some 18) _ = _; simp only [Act.put, ptn]; rfl
   refine dr1 7 HT fun K hK => ?_
   refine if_li q66 [3] ([t9] : List S66) ([.int .i64 t9.f0, .string t9.f1, .slice B10 t9.f2.length d10] ++ []) HS (MadeL.cons (js1 := [3]) (c := [.int .i64 t9.f0, .string t9.f1, .slice B10 t9.f2.length d10]) rfl (fun S hd hh => q66_pack (x := t9) hd (hh 3 (.own (Zd.slice 66 q66) t9.f2 [.slice B10 t9.f2.length d10]) rfl) (by decide)) MadeL.nil (by decide)) ?_; clear HS; intro v11 w11 HS F; obtain ⟨B11, d11, rfl, m11⟩ := HS.formn 1 4 rfl rfl
   refine hK.out _ _ ⟨[], HS.arr [some 0, some 1, none] (by decide)⟩ (fun HH => ?_)
   clear hK K
   refine norm_ (a' := ?_) ?_ ?_
   rotate_left
   · show Act.put _ (some 19) _ = _; simp only [Act.put, ptn]; rfl
   refine dr1 8 HT fun K hK => ?_
   refine wp_ap q66 2 4 HS rfl rfl Tryz.underlying64 info66 (of_eq_true c12) ?_; clear HS; intro v13 w13 HS; rw [← e_y13.out] at HS; obtain ⟨B13, d13, rfl, m13⟩ := HS.form 5 rfl
   (try simp only [hpn, hpm] at HS)
   have F := HS.boxes; simp only [bxn] at F
   refine hK.out _ _ ⟨[], HS.arr [some 0, some 1, none] (by decide)⟩ (fun HH => ?_)
   clear hK K
   refine norm_ (a' := ?_) ?_ ?_
   rotate_left
   · show Act.put _ (some 20) _ = _; simp only [Act.put, ptn]; rfl
   refine drq_of [(9, some 21)] ?_
   repeat (refine drp HT ?_)
   refine drq_end ?_
   refine dr_last 10 HT rfl (by kernel_rfl) (by decide) (fun K hK => ?_)
   refine if_st 1 2 HS (seg := [.slice B13 y13.length d13]) ?_; clear HS; intro w14 HS F
   refine hK.out _ _ ?_
   clear hK K
   refine done_ (done_of HT.out (by kernel_rfl)) ?_
   (try clear F)
   have F := HS.boxes; simp only [bxn] at F
   go_wp2
   go_roundg k18
   case measure => have := HKk18.out; omega
   case rel => exact ⟨_, _, _, rfl, H, ⟨by have := HKk18.out; omega⟩, HS.pick [0, 1, 5] (by decide) (by rfl)⟩
def spec_AskText.f (k : Nat) (a0 : S26) : Option (ByteArray × Bool) := ((spec_AskOk.f k a0).bind fun t3 => (if t3 = true then ((spec_l14Texts.f k a0.f0).bind fun t6 => ((spec_IntItem.f k a0.f1).bind fun t10 => ((spec_IntItem.f k a0.f2).bind fun t12 => ((spec_IntItem.f k a0.f3).bind fun t15 => ((spec_IntItem.f k a0.f4).bind fun t17 => ((spec_l09Bool.f a0.f5).bind fun t19 => ((spec_ItemText.f k (⟨48, (⟨#[]⟩ : ByteArray), ([t6, t10, t12, t15, t17, t19] : List S66)⟩ : S66)).bind fun t22 => (some (t22.1, t22.2))))))))) else (some ((⟨#[]⟩ : ByteArray), false))))
def spec_AskText.T3 : TT := (true, [([], []), ([0], [0]), ([1], [1]), ([], []), ([3], [3]), ([4, 2], [4]), ([], []), ([6], [6]), ([7, 5], [7]), ([], []), ([9], [9]), ([10, 8], [10]), ([], []), ([12], [12]), ([13, 11], [13]), ([], []), ([15], [15]), ([16, 14], [16]), ([2, 5, 8, 11, 14, 17], [2, 5, 8, 11, 14, 17]), ([18], [18]), ([19, 17], [19]), ([20], [20]), ([20], [20]), ([21, 20, 0, 1, 2, 3, 4, 5, 6, 7, 8, 9, 10, 11, 12, 13, 14, 15, 16, 17, 18, 19, 20, 21, 22], [21]), ([22, 23, 0, 1, 2, 3, 4, 5, 6, 7, 8, 9, 10, 11, 12, 13, 14, 15, 16, 17, 18, 19, 20, 21, 22, 23], [22])])
theorem spec_AskText.tT3 : rtab .any (opsOf Tryz.f8 3) = spec_AskText.T3 := by kernel_rfl
theorem spec_AskText.calls {k : Nat} {a0 : S26} {Ap0 : Option Addr} {np0 cp0 : Nat} {r1 : ByteArray} {r2 : Bool} {w : World} (h : spec_AskText.f k a0 = some (r1, r2)) (gp0 : Kd.string.C w Ap0 np0 a0.f0) (lp0 : np0 ≤ cp0) :
    Calls Tryz.prog 8 #[.agg #[.slice Ap0 np0 cp0, .int .i64 a0.f1, .int .i64 a0.f2, .int .i64 a0.f3, .int .i64 a0.f4, .bool a0.f5]] w (fun e w' => e = .returned (.tuple #[.string r1, .bool r2]) ∧ Hp noFP w w' []) := by
 obtain rfl := C_len gp0
 have HS := Hp.start w
 have H := Aside0.mk h
 clear h
 unfold spec_AskText.f at H
 go_enter Tryz.func8, Tryz.ntmps8
 replace H := zbind H; obtain ⟨t3, ht3, H⟩ := H
 go_upto_if 6 with (first | ((with_reducible refine gd 1 rfl ?_); refine ev_bx HS ?_; clear HS; intro g1 w1 HS F) | ((with_reducible refine gd 5 rfl ?_); refine ev_cl HS (spec_AskOk.calls ht3.out (HS.ro gp0) lp0) Tryz.func13 ?_; clear HS; intro wt3 HS F))
 replace H := znifb H; rcases H with ⟨c5, H⟩ | ⟨c5, H⟩
 case inl =>
  subst c5
  (try simp only [dcn, dcu, dcf])
  obtain ⟨rfl, rfl⟩ := zsome2 H
  go_wp2
  exact bodyPost_ret (results_list (rs := [.tmp 2, .tmp 3]) rfl (by simp) (.tmp (.tmp .nil))) rfl ⟨rfl, HS.pick [] (by decide) (by rfl)⟩
 subst c5
 (try simp only [dcn, dcu, dcf])
 (try go_wp2)
 replace H := zbind H; obtain ⟨t6, ht6, H⟩ := H
 replace H := zbind H; obtain ⟨t10, ht10, H⟩ := H
 replace H := zbind H; obtain ⟨t12, ht12, H⟩ := H
 replace H := zbind H; obtain ⟨t15, ht15, H⟩ := H
 replace H := zbind H; obtain ⟨t17, ht17, H⟩ := H
 replace H := zbind H; obtain ⟨t19, ht19, H⟩ := H
 replace H := zbind H; obtain ⟨t22, ht22, H⟩ := H
 refine dr_start [] HS #[false, false, false, false, false, false, false, false, false, false, false, false, false, false, false, false, false, false, false, false, false, false, false, false, false] (by kernel_rfl) rfl rfl spec_AskText.tT3 (fun w7 HT HS HH => ?_)
 (try clear F)
 refine drq_of [(0, some 7), (1, some 8), (3, some 10), (4, some 11), (6, some 13), (7, some 14), (9, some 16), (10, some 17), (12, some 19), (13, some 20), (15, some 22), (16, some 23)] ?_
 repeat (first | refine drp HT ?_ | refine drt HT HH ?_)
 refine drq_end ?_
 refine dr1 2 HT fun K hK => ?_
 refine go_cl1 HS (spec_l14Texts.calls ht6.out (HS.ro gp0) lp0) Tryz.func37 ?_; clear HS; intro v9 wt6 HS F; obtain ⟨B9, d9, rfl, m9⟩ := HS.form 1 rfl
 refine nrm 9 hK ⟨_, HS⟩ (fun HH => ?_); clear hK K
 refine dr1 5 HT fun K hK => ?_
 refine go_cl1 HS (spec_IntItem.calls ht10.out) Tryz.func38 ?_; clear HS; intro v11 wt10 HS F; obtain ⟨B11, d11, rfl, m11⟩ := HS.form 2 rfl
 refine nrm 12 hK ⟨_, HS⟩ (fun HH => ?_); clear hK K
 refine dr1 8 HT fun K hK => ?_
 refine go_cl1 HS (spec_IntItem.calls ht12.out) Tryz.func38 ?_; clear HS; intro v14 wt12 HS F; obtain ⟨B14, d14, rfl, m14⟩ := HS.form 3 rfl
 refine nrm 15 hK ⟨_, HS⟩ (fun HH => ?_); clear hK K
 refine dr1 11 HT fun K hK => ?_
 refine go_cl1 HS (spec_IntItem.calls ht15.out) Tryz.func38 ?_; clear HS; intro v16 wt15 HS F; obtain ⟨B16, d16, rfl, m16⟩ := HS.form 4 rfl
 refine nrm 18 hK ⟨_, HS⟩ (fun HH => ?_); clear hK K
 refine dr1 14 HT fun K hK => ?_
 refine go_cl1 HS (spec_IntItem.calls ht17.out) Tryz.func38 ?_; clear HS; intro v18 wt17 HS F; obtain ⟨B18, d18, rfl, m18⟩ := HS.form 5 rfl
 refine nrm 21 hK ⟨_, HS⟩ (fun HH => ?_); clear hK K
 refine dr1 17 HT fun K hK => ?_
 refine go_cl1 HS (spec_l09Bool.calls ht19.out) Tryz.func39 ?_; clear HS; intro v20 wt19 HS F; obtain ⟨B20, d20, rfl, m20⟩ := HS.form 6 rfl
 refine nrm 24 hK ⟨_, HS⟩ (fun HH => ?_); clear hK K
 refine dr1 18 HT fun K hK => ?_
 refine if_li q66 [1, 2, 3, 4, 5, 6] ([t6, t10, t12, t15, t17, t19] : List S66) ([.int .i64 t6.f0, .string t6.f1, .slice B9 t6.f2.length d9] ++ ([.int .i64 t10.f0, .string t10.f1, .slice B11 t10.f2.length d11] ++ ([.int .i64 t12.f0, .string t12.f1, .slice B14 t12.f2.length d14] ++ ([.int .i64 t15.f0, .string t15.f1, .slice B16 t15.f2.length d16] ++ ([.int .i64 t17.f0, .string t17.f1, .slice B18 t17.f2.length d18] ++ ([.int .i64 t19.f0, .string t19.f1, .slice B20 t19.f2.length d20] ++ [])))))) HS (MadeL.cons (js1 := [1]) (c := [.int .i64 t6.f0, .string t6.f1, .slice B9 t6.f2.length d9]) rfl (fun S hd hh => q66_pack (x := t6) hd (hh 1 (.own (Zd.slice 66 q66) t6.f2 [.slice B9 t6.f2.length d9]) rfl) (by decide)) (MadeL.cons (js1 := [2]) (c := [.int .i64 t10.f0, .string t10.f1, .slice B11 t10.f2.length d11]) rfl (fun S hd hh => q66_pack (x := t10) hd (hh 2 (.own (Zd.slice 66 q66) t10.f2 [.slice B11 t10.f2.length d11]) rfl) (by decide)) (MadeL.cons (js1 := [3]) (c := [.int .i64 t12.f0, .string t12.f1, .slice B14 t12.f2.length d14]) rfl (fun S hd hh => q66_pack (x := t12) hd (hh 3 (.own (Zd.slice 66 q66) t12.f2 [.slice B14 t12.f2.length d14]) rfl) (by decide)) (MadeL.cons (js1 := [4]) (c := [.int .i64 t15.f0, .string t15.f1, .slice B16 t15.f2.length d16]) rfl (fun S hd hh => q66_pack (x := t15) hd (hh 4 (.own (Zd.slice 66 q66) t15.f2 [.slice B16 t15.f2.length d16]) rfl) (by decide)) (MadeL.cons (js1 := [5]) (c := [.int .i64 t17.f0, .string t17.f1, .slice B18 t17.f2.length d18]) rfl (fun S hd hh => q66_pack (x := t17) hd (hh 5 (.own (Zd.slice 66 q66) t17.f2 [.slice B18 t17.f2.length d18]) rfl) (by decide)) (MadeL.cons (js1 := [6]) (c := [.int .i64 t19.f0, .string t19.f1, .slice B20 t19.f2.length d20]) rfl (fun S hd hh => q66_pack (x := t19) hd (hh 6 (.own (Zd.slice 66 q66) t19.f2 [.slice B20 t19.f2.length d20]) rfl) (by decide)) MadeL.nil (by decide)) (by decide)) (by decide)) (by decide)) (by decide)) (by decide)) ?_; clear HS; intro v21 w21 HS F; obtain ⟨B21, d21, rfl, m21⟩ := HS.formn 6 7 rfl rfl
 refine nrm 25 hK ⟨_, HS⟩ (fun HH => ?_); clear hK K
 refine drq_of [(19, some 26)] ?_
 repeat (refine drp HT ?_)
 refine drq_end ?_
 refine dr1 20 HT fun K hK => ?_
 refine go_cl HS (spec_ItemText.calls ht22.out (HS.rd 7 rfl) m21) Tryz.func36 ?_; clear HS; intro wt22 HS F
 refine nrm 27 hK ⟨_, HS⟩ (fun HH => ?_); clear hK K
 refine drq_of [(21, some 28), (22, some 29), (23, some 2), (24, some 3)] ?_
 repeat (refine drp HT ?_)
 refine drq_end ?_
 refine done_ (done_of HT.out (by kernel_rfl)) ?_
 (try clear F)
 have F := HS.boxes; simp only [bxn] at F
 obtain ⟨rfl, rfl⟩ := zsome2 H
 go_wp2
 exact bodyPost_ret (results_list (rs := [.tmp 2, .tmp 3]) rfl (by simp) (.tmp (.tmp .nil))) rfl ⟨rfl, HS.pick [] (by decide) (by rfl)⟩
def spec_DrawReadAsk.f (k : Nat) (a0 : (List Int)) : Option (ByteArray) := ((spec_l01New.f k a0).bind fun t1 => ((spec_l01Below_0.f (⟨a0, t1.f1, t1.f2⟩ : S110) 4).bind fun t4 => ((spec_l14Any_0.f k (⟨a0, t4.2.f1, t4.2.f2⟩ : S110)).bind fun t6 => ((spec_AskText.f k t6.1).bind fun t9 => (if t4.1 = 0 then ((spec_l02Spoilt_0.f k (⟨a0, t6.2.f1, t6.2.f2⟩ : S110) t9.1).bind fun t12 => (some t12.1)) else (some t9.1))))))
theorem spec_DrawReadAsk.calls {k : Nat} {a0 : (List Int)} {Ap0 : Option Addr} {np0 cp0 : Nat} {r : ByteArray} {w : World} (h : spec_DrawReadAsk.f k a0 = some r) (gp0 : (Kd.int .u8).C w Ap0 np0 a0) (lp0 : np0 ≤ cp0) :
    Calls Tryz.prog 10 #[.slice Ap0 np0 cp0] w (fun e w' => e = .returned (.string r) ∧ Hp noFP w w' []) := by
 obtain rfl := C_len gp0
 have HS := Hp.start w
 have H := Aside0.mk h
 clear h
 unfold spec_DrawReadAsk.f at H
 go_enter Tryz.func10, Tryz.ntmps10
 replace H := zbind H; obtain ⟨t1, ht1, H⟩ := H
 replace H := zbind H; obtain ⟨t4, ht4, H⟩ := H
 replace H := zbind H; obtain ⟨t6, ht6, H⟩ := H
 replace H := zbind H; obtain ⟨t9, ht9, H⟩ := H
 go_upto_if 18 with (first | ((with_reducible refine gd 8 rfl ?_); refine ev_call rfl Tryz.func29 (by kernel_rfl) rfl #[.slice Ap0 a0.length cp0] rfl (by simp only [mpn]; rfl) ?_; refine (spec_l01New.calls ht1.out (HS.ro gp0) lp0).mono ?_; rintro _ wt1 ⟨g2, rfl, HQ⟩; refine ⟨_, rfl, ?_⟩; replace HS := HS.call HQ; clear HQ; (try clear F); (try simp only [hpn, hpm] at HS); have F := HS.boxes; simp only [bxn] at F) | ((with_reducible refine gd 10 rfl ?_); refine HS.lend [0] (by decide) [.box g2 [.slice Ap0 a0.length cp0, .int .i64 t1.f1, .int .i64 t1.f2] 110] rfl (fun A' HL HD HA HB => ?_); refine ev_lc (spec_l01Below_0.calls ht4.out gp0 lp0 (HS.view HL) HA) (fun _ HQ => HB _ _ HQ (Nat.le_of_ble_eq_true rfl)) Tryz.func45 ?_; clear HS HA HB HL HD; intro wt4 HS F) | ((with_reducible refine gd 13 rfl ?_); refine HS.lend [0] (by decide) [.box g2 [.slice Ap0 a0.length cp0, .int .i64 t4.2.f1, .int .i64 t4.2.f2] 110] rfl (fun A' HL HD HA HB => ?_); refine ev_call rfl Tryz.func28 (by kernel_rfl) rfl #[.pointer (some ⟨g2, 0, none⟩)] rfl (by simp only [mpn]; rfl) ?_; refine (spec_l14Any_0.calls ht6.out gp0 lp0 (HS.view HL) HA).mono ?_; rintro _ wt6 ⟨v7, rfl, HQ⟩; refine ⟨_, rfl, ?_⟩; replace HS := HB _ _ HQ (Nat.le_of_ble_eq_true rfl); clear HQ HA HB HL HD; (try simp only [hpn, hpm] at HS); (try clear F); obtain ⟨B7, d7, rfl, m7⟩ := HS.form 1 rfl; (try simp only [hpn, hpm] at HS); have F := HS.boxes; simp only [bxn] at F) | ((with_reducible refine gd 14 rfl ?_); refine ev_cl HS (spec_AskText.calls ht9.out (HS.rd 1 rfl) m7) Tryz.func8 ?_; clear HS; intro wt9 HS F))
 replace H := znif' H; rcases H with ⟨c11, H⟩ | ⟨c11, H⟩
 case inl =>
  have c11a := beq_eq_false_iff_ne.mpr c11
  have c11b := bne_iff_ne.mpr c11
  clear c11
  (try simp only [c11a, c11b, dcn])
  obtain rfl := zsome H
  go_wp2
  go_ret
  exact HS.pk
 have c11a := beq_iff_eq.mpr c11
 have c11b := bne_eq_false_iff_eq.mpr c11
 clear c11
 (try simp only [c11a, c11b, dcn])
 replace H := zbind H; obtain ⟨t12, ht12, H⟩ := H
 obtain rfl := zsome H
 go_wp2_with ((with_reducible refine gd 21 rfl ?_); refine HS.lend [0] (by decide) [.box g2 [.slice Ap0 a0.length cp0, .int .i64 t6.2.f1, .int .i64 t6.2.f2] 110] rfl (fun A' HL HD HA HB => ?_); refine ev_lc (spec_l02Spoilt_0.calls ht12.out gp0 lp0 (HS.view HL) HA) (fun _ HQ => HB _ _ HQ (Nat.le_of_ble_eq_true rfl)) Tryz.func46 ?_; clear HS HA HB HL HD; intro wt12 HS F)
 go_ret
 exact HS.pk
def spec_l07Size.l0 : Nat → Int → Int → ByteArray → Int → Option (Int × Int × Bool)
  | 0, _, _, _, _ => none
  | k + 1, x17, x18, a0, a1 => (if x18 < (wrap64 ((wrap64 (bt a0 a1)) - 128)) then (if 0 ≤ (wrap64 ((wrap64 (a1 + 1)) + x18)) then (if (wrap64 ((wrap64 (a1 + 1)) + x18)) < (a0.size : Int) then (spec_l07Size.l0 k (wrap64 ((wrap64 (256 * x17)) + (wrap64 (bt a0 (wrap64 ((wrap64 (a1 + 1)) + x18)))))) (wrap64 (x18 + 1)) a0 a1) else none) else none) else (some (x17, (wrap64 ((wrap64 (a1 + 1)) + (wrap64 ((wrap64 (bt a0 a1)) - 128)))), true)))
def spec_l07Size.f (k : Nat) (a0 : ByteArray) (a1 : Int) : Option (Int × Int × Bool) := (if (a0.size : Int) ≤ a1 then (some (0, 0, false)) else (if 0 ≤ a1 then (if a1 < (a0.size : Int) then (if (wrap64 (bt a0 a1)) < 128 then (some ((wrap64 (bt a0 a1)), (wrap64 (a1 + 1)), true)) else ((spec_l01In.f (wrap64 ((wrap64 (bt a0 a1)) - 128)) 1 2).bind fun t6 => (if t6 = true then (if (wrap64 ((wrap64 ((a0.size : Int) - a1)) - 1)) < (wrap64 ((wrap64 (bt a0 a1)) - 128)) then (some (0, 0, false)) else (spec_l07Size.l0 k 0 0 a0 a1)) else (some (0, 0, false))))) else none) else none))
theorem spec_l07Size.calls {k : Nat} {a0 : ByteArray} {a1 : Int} {r1 : Int} {r2 : Int} {r3 : Bool} {w : World} (h : spec_l07Size.f k a0 a1 = some (r1, r2, r3)) :
    Calls Tryz.prog 107 #[.string a0, .int .i64 a1] w (fun e w' => e = .returned (.tuple #[.int .i64 r1, .int .i64 r2, .bool r3]) ∧ Hp noFP w w' []) := by
 have HS := Hp.start w
 have H := Aside0.mk h
 clear h
 unfold spec_l07Size.f at H
 go_enter Tryz.func107, Tryz.ntmps107
 replace H := zif H; rcases H with ⟨c1, H⟩ | ⟨c1, H⟩
 case inl =>
  obtain ⟨rfl, rfl, rfl⟩ := zsome3 H
  go_wp2
  exact bodyPost_ret (results_list (rs := [.tmp 4, .tmp 5, .tmp 6]) rfl (by simp) (.tmp (.tmp (.tmp .nil)))) rfl ⟨rfl, HS.pick [] (by decide) (by rfl)⟩
 replace H := zgo H; obtain ⟨c2, H⟩ := H
 replace H := zgo H; obtain ⟨c3, H⟩ := H
 have hx4 := bt_at a0 a1
 replace H := zif H; rcases H with ⟨c5, H⟩ | ⟨c5, H⟩
 case inl =>
  obtain ⟨rfl, rfl, rfl⟩ := zsome3 H
  go_wp2
  exact bodyPost_ret (results_list (rs := [.tmp 4, .tmp 5, .tmp 6]) rfl (by simp) (.tmp (.tmp (.tmp .nil)))) rfl ⟨rfl, HS.pick [] (by decide) (by rfl)⟩
 replace H := zbind H; obtain ⟨t6, ht6, H⟩ := H
 replace H := znifb H; rcases H with ⟨c8, H⟩ | ⟨c8, H⟩
 case inl =>
  subst c8
  obtain ⟨rfl, rfl, rfl⟩ := zsome3 H
  go_wp2_with ((with_reducible refine gd 27 rfl ?_); refine ev_cl HS (spec_l01In.calls ht6.out) Tryz.func54 ?_; clear HS; intro wt6 HS F)
  exact bodyPost_ret (results_list (rs := [.tmp 4, .tmp 5, .tmp 6]) rfl (by simp) (.tmp (.tmp (.tmp .nil)))) rfl ⟨rfl, HS.pick [] (by decide) (by rfl)⟩
 subst c8
 go_upto_if 37 with ((with_reducible refine gd 27 rfl ?_); refine ev_cl HS (spec_l01In.calls ht6.out) Tryz.func54 ?_; clear HS; intro wt6 HS F)
 replace H := zif H; rcases H with ⟨c9, H⟩ | ⟨c9, H⟩
 case inl =>
  (try simp only [c9, dcn])
  obtain ⟨rfl, rfl, rfl⟩ := zsome3 H
  go_wp2
  exact bodyPost_ret (results_list (rs := [.tmp 4, .tmp 5, .tmp 6]) rfl (by simp) (.tmp (.tmp (.tmp .nil)))) rfl ⟨rfl, HS.pick [] (by decide) (by rfl)⟩
 (try simp only [c9, dcn])
 go_wp2
 go_loopg [9, 10] k (fun kq v_9 v_10 w' => ∃ (x17 : Int) (x18 : Int), v_9 = .int .i64 x17 ∧ v_10 = .int .i64 x18 ∧ Aside0 (spec_l07Size.l0 kq x17 x18 a0 a1 = some (r1, r2, r3)) ∧ Aside0 (kq ≤ k) ∧ Hp noFP w w' [])
 case atStart => exact ⟨_, _, rfl, rfl, H, ⟨Nat.le_refl _⟩, HS⟩
 case round =>
  clear HS H; (try clear F)
  obtain ⟨x17, x18, rfl, rfl, H, HKk16, HS⟩ := hrel
  cases gk with
  | zero => exact absurd H.out (by simp [spec_l07Size.l0])
  | succ k16 =>
   simp only [spec_l07Size.l0] at H
   replace H := znif H; rcases H with ⟨c20, H⟩ | ⟨c20, H⟩
   case inl =>
    obtain ⟨rfl, rfl, rfl⟩ := zsome3 H
    go_wp2
    exact bodyPost_ret (results_list (rs := [.tmp 4, .tmp 5, .tmp 6]) rfl (by simp) (.tmp (.tmp (.tmp .nil)))) rfl ⟨rfl, HS.pick [] (by decide) (by rfl)⟩
   replace H := zgo H; obtain ⟨c21, H⟩ := H
   replace H := zgo H; obtain ⟨c22, H⟩ := H
   have hx23 := bt_at a0 (wrap64 ((wrap64 (a1 + 1)) + x18))
   go_wp2
   go_roundg k16
   case measure => have := HKk16.out; omega
   case rel => exact ⟨_, _, rfl, rfl, H, ⟨by have := HKk16.out; omega⟩, HS.pick [] (by decide) (by rfl)⟩
mutual
def spec_l07Read.l0 : Nat → (List S66) → Int → ByteArray → Int → Int → Int × Int × Bool → Option (S66 × Int × Bool)
  | 0, _, _, _, _, _, _ => none
  | k + 1, l49, x51, a0, a1, a2, t16 => (if x51 < (wrap64 (t16.2.1 + t16.1)) then (if 0 ≤ (wrap64 (t16.2.1 + t16.1)) then (if (wrap64 (t16.2.1 + t16.1)) ≤ (a0.size : Int) then ((spec_l07Read.f k (a0.extract 0 ((wrap64 (t16.2.1 + t16.1))).toNat) x51 (wrap64 (a2 + 1))).bind fun t56 => (if t56.2.2 = true then (if 40 ≤ (l49.length : Int) then (some ((⟨0, (⟨#[]⟩ : ByteArray), ([] : List S66)⟩ : S66), 0, false)) else (if l49.length + 1 ≤ 2932031007402 then (lets (l49 ++ ([t56.1] : List S66)) fun y70 => (spec_l07Read.l0 k y70 t56.2.1 a0 a1 a2 t16)) else none)) else (some ((⟨0, (⟨#[]⟩ : ByteArray), ([] : List S66)⟩ : S66), 0, false)))) else none) else none) else (some ((⟨(wrap64 (bt a0 a1)), (⟨#[]⟩ : ByteArray), l49⟩ : S66), (wrap64 (t16.2.1 + t16.1)), true)))
def spec_l07Read.f : Nat → ByteArray → Int → Int → Option (S66 × Int × Bool)
  | 0, _, _, _ => none
  | k + 1, a0, a1, a2 => (if (a0.size : Int) ≤ a1 then (some ((⟨0, (⟨#[]⟩ : ByteArray), ([] : List S66)⟩ : S66), 0, false)) else (if 6 < a2 then (some ((⟨0, (⟨#[]⟩ : ByteArray), ([] : List S66)⟩ : S66), 0, false)) else (if 0 ≤ a1 then (if a1 < (a0.size : Int) then ((spec_l07Size.f k a0 (wrap64 (a1 + 1))).bind fun t16 => (if t16.2.2 = true then (if (wrap64 ((a0.size : Int) - t16.2.1)) < t16.1 then (some ((⟨0, (⟨#[]⟩ : ByteArray), ([] : List S66)⟩ : S66), 0, false)) else (if (wrap64 (bt a0 a1)) = 48 then (spec_l07Read.l0 k [] t16.2.1 a0 a1 a2 t16) else (if 0 ≤ t16.2.1 then (if t16.2.1 ≤ (wrap64 (t16.2.1 + t16.1)) then (if (wrap64 (t16.2.1 + t16.1)) ≤ (a0.size : Int) then (some ((⟨(wrap64 (bt a0 a1)), (a0.extract (t16.2.1).toNat ((wrap64 (t16.2.1 + t16.1))).toNat), ([] : List S66)⟩ : S66), (wrap64 (t16.2.1 + t16.1)), true)) else none) else none) else none))) else (some ((⟨0, (⟨#[]⟩ : ByteArray), ([] : List S66)⟩ : S66), 0, false)))) else none) else none)))
end
theorem spec_l07Read.calls_ (K : Nat) : ∀ {k : Nat} (hK : k ≤ K) {a0 : ByteArray} {a1 : Int} {a2 : Int} {r1 : S66} {r2 : Int} {r3 : Bool} {w : World} (h : spec_l07Read.f k a0 a1 a2 = some (r1, r2, r3)),
    Calls Tryz.prog 81 #[.string a0, .int .i64 a1, .int .i64 a2] w (fun e w' => ∃ v0_ : Value, e = .returned (.tuple #[.agg #[.int .i64 r1.f0, .string r1.f1, v0_], .int .i64 r2, .bool r3]) ∧ Hp noFP w w' [.own (Zd.slice 66 q66) r1.f2 [v0_]]) := by
  induction K with
  | zero =>
    intro k hK a0 a1 a2 r1 r2 r3 w h
    obtain rfl : k = 0 := by omega
    exact absurd h (by simp [spec_l07Read.f])
  | succ K IH =>
    intro k hK a0 a1 a2 r1 r2 r3 w h
    cases k with
    | zero => exact absurd h (by simp [spec_l07Read.f])
    | succ k =>
    have HK0 : Aside0 (k ≤ K) := ⟨by omega⟩
    clear hK
    have HS := Hp.start w
    have H := Aside0.mk h
    clear h
    simp only [spec_l07Read.f] at H
    go_enter Tryz.func81, Tryz.ntmps81
    replace H := zif H; rcases H with ⟨c3, H⟩ | ⟨c3, H⟩
    case inl =>
     obtain ⟨rfl, rfl, rfl⟩ := zsome3 H
     go_wp2_with (first | ((with_reducible refine gd 6 rfl ?_); refine ev_bx HS ?_; clear HS; intro g6 w6 HS F) | ((with_reducible refine gate_store (p := 6) rfl ?_); refine ev_st 0 0 HS (seg := [.int .i64 0, .string (⟨#[]⟩ : ByteArray), .slice none 0 0]) ?_; clear HS; intro w4 HS F))
     replace HS := HS.nil 66 q66
     exact bodyPost_ret (results_list (rs := [.cell 6 66, .tmp 7, .tmp 8]) rfl (by simp) (.cell _ _ _ _ _ rfl (HS.boxAt (i := 0) rfl) Tryz.underlying66 rfl (by kernel_rfl) (.tmp (.tmp .nil)))) rfl ⟨_, rfl, HS.pick [1] (by decide) (by rfl)⟩
    go_upto_if 24 with ((with_reducible refine gd 6 rfl ?_); refine ev_bx HS ?_; clear HS; intro g6 w6 HS F)
    replace H := zif H; rcases H with ⟨c6, H⟩ | ⟨c6, H⟩
    case inl =>
     (try simp only [c6, dcn])
     obtain ⟨rfl, rfl, rfl⟩ := zsome3 H
     go_wp2_with ((with_reducible refine gate_store (p := 6) rfl ?_); refine ev_st 0 0 HS (seg := [.int .i64 0, .string (⟨#[]⟩ : ByteArray), .slice none 0 0]) ?_; clear HS; intro w7 HS F)
     replace HS := HS.nil 66 q66
     exact bodyPost_ret (results_list (rs := [.cell 6 66, .tmp 7, .tmp 8]) rfl (by simp) (.cell _ _ _ _ _ rfl (HS.boxAt (i := 0) rfl) Tryz.underlying66 rfl (by kernel_rfl) (.tmp (.tmp .nil)))) rfl ⟨_, rfl, HS.pick [1] (by decide) (by rfl)⟩
    (try simp only [c6, dcn])
    replace H := zgo H; obtain ⟨c9, H⟩ := H
    replace H := zgo H; obtain ⟨c10, H⟩ := H
    have hx11 := bt_at a0 a1
    replace H := zbind H; obtain ⟨t16, ht16, H⟩ := H
    replace H := znifb H; rcases H with ⟨c18, H⟩ | ⟨c18, H⟩
    case inl =>
     obtain ⟨rfl, rfl, rfl⟩ := zsome3 H
     go_wp2_with (first | ((with_reducible refine gd 9 rfl ?_); refine ev_bx HS ?_; clear HS; intro g9 w9 HS F) | ((with_reducible refine gate_store (p := 9) rfl ?_); refine ev_st 1 0 HS (seg := [.int .i64 (wrap64 (bt a0 a1)), .string (⟨#[]⟩ : ByteArray), .slice none 0 0]) ?_; clear HS; intro w14 HS F) | ((with_reducible refine gd 35 rfl ?_); refine ev_cl HS (spec_l07Size.calls ht16.out) Tryz.func107 ?_; clear HS; intro wt16 HS F; (try simp only [c18])) | ((with_reducible refine gate_store (p := 6) rfl ?_); refine ev_st 0 0 HS (seg := [.int .i64 0, .string (⟨#[]⟩ : ByteArray), .slice none 0 0]) ?_; clear HS; intro w85 HS F))
     replace HS := HS.nil 66 q66
     exact bodyPost_ret (results_list (rs := [.cell 6 66, .tmp 7, .tmp 8]) rfl (by simp) (.cell _ _ _ _ _ rfl (HS.boxAt (i := 0) rfl) Tryz.underlying66 rfl (by kernel_rfl) (.tmp (.tmp .nil)))) rfl ⟨_, rfl, HS.pick [2] (by decide) (by rfl)⟩
    go_upto_if 48 with (first | ((with_reducible refine gd 9 rfl ?_); refine ev_bx HS ?_; clear HS; intro g9 w9 HS F) | ((with_reducible refine gate_store (p := 9) rfl ?_); refine ev_st 1 0 HS (seg := [.int .i64 (wrap64 (bt a0 a1)), .string (⟨#[]⟩ : ByteArray), .slice none 0 0]) ?_; clear HS; intro w14 HS F) | ((with_reducible refine gd 35 rfl ?_); refine ev_cl HS (spec_l07Size.calls ht16.out) Tryz.func107 ?_; clear HS; intro wt16 HS F; (try simp only [c18])))
    replace H := zif H; rcases H with ⟨c19, H⟩ | ⟨c19, H⟩
    case inl =>
     (try simp only [c19, dcn])
     obtain ⟨rfl, rfl, rfl⟩ := zsome3 H
     go_wp2_with ((with_reducible refine gate_store (p := 6) rfl ?_); refine ev_st 0 0 HS (seg := [.int .i64 0, .string (⟨#[]⟩ : ByteArray), .slice none 0 0]) ?_; clear HS; intro w20 HS F)
     replace HS := HS.nil 66 q66
     exact bodyPost_ret (results_list (rs := [.cell 6 66, .tmp 7, .tmp 8]) rfl (by simp) (.cell _ _ _ _ _ rfl (HS.boxAt (i := 0) rfl) Tryz.underlying66 rfl (by kernel_rfl) (.tmp (.tmp .nil)))) rfl ⟨_, rfl, HS.pick [2] (by decide) (by rfl)⟩
    (try simp only [c19, dcn])
    replace H := znif' H; rcases H with ⟨c22, H⟩ | ⟨c22, H⟩
    case inl =>
     have c22a := beq_eq_false_iff_ne.mpr c22
     have c22b := bne_iff_ne.mpr c22
     clear c22
     replace H := zgo H; obtain ⟨c78, H⟩ := H
     replace H := zgo H; obtain ⟨c79, H⟩ := H
     replace H := zgo H; obtain ⟨c80, H⟩ := H
     obtain ⟨rfl, rfl, rfl⟩ := zsome3 H
     go_wp2_with (first | ((with_reducible refine gd 58 rfl ?_); refine ev_val rfl (run_cut rfl rfl Tryz.underlying9 (.inr ⟨_, _, rfl, rfl, of_eq_true c78⟩) (.inr ⟨_, _, rfl, rfl, by have := of_eq_true c78; have := of_eq_true c79; have := of_eq_true c80; omega⟩) (by have := of_eq_true c78; have := of_eq_true c79; have := of_eq_true c80; omega) (by have := of_eq_true c78; have := of_eq_true c79; have := of_eq_true c80; omega)) ?_) | ((with_reducible refine gate_store (p := 59) rfl ?_); refine ev_st 1 1 HS (seg := [.string (a0.extract (t16.2.1).toNat ((wrap64 (t16.2.1 + t16.1))).toNat)]) ?_; clear HS; intro w81 HS F) | ((with_reducible refine gate_store (p := 6) rfl ?_); refine ev_st 0 0 HS (seg := [.int .i64 (wrap64 (bt a0 a1)), .string (a0.extract (t16.2.1).toNat ((wrap64 (t16.2.1 + t16.1))).toNat), .slice none 0 0]) ?_; clear HS; intro w83 HS F))
     replace HS := HS.nil 66 q66
     exact bodyPost_ret (results_list (rs := [.cell 6 66, .tmp 7, .tmp 8]) rfl (by simp) (.cell _ _ _ _ _ rfl (HS.boxAt (i := 0) rfl) Tryz.underlying66 rfl (by kernel_rfl) (.tmp (.tmp .nil)))) rfl ⟨_, rfl, HS.pick [2] (by decide) (by rfl)⟩
    have c22a := beq_iff_eq.mpr c22
    have c22b := bne_eq_false_iff_eq.mpr c22
    clear c22
    go_wp2
    replace HS := HS.nil 66 q66
    go_loopg [13] k (fun kq v_13 w' => ∃ (l49 : List S66) (v50 : Value) (x51 : Int), v_13 = .int .i64 x51 ∧ Aside0 (spec_l07Read.l0 kq l49 x51 a0 a1 a2 t16 = some (r1, r2, r3)) ∧ Aside0 (kq ≤ k) ∧ Hp noFP w w' [.box g6 [.int .i64 0, .string (⟨#[]⟩ : ByteArray), .slice none 0 0] 66, .box g9 [.int .i64 (wrap64 (bt a0 a1)), .string (⟨#[]⟩ : ByteArray), v50] 66, .own (Zd.slice 66 q66) l49 [v50]])
    case atStart => exact ⟨_, _, _, rfl, H, ⟨Nat.le_refl _⟩, HS⟩
    case round =>
     clear HS H; (try clear F)
     obtain ⟨l49, v50, x51, rfl, H, HKk48, HS⟩ := hrel
     obtain ⟨B50, d50, rfl, m50⟩ := HS.form 2 rfl
     have F := HS.boxes; simp only [bxn] at F
     cases gk with
     | zero => exact absurd H.out (by simp [spec_l07Read.l0])
     | succ k48 =>
      simp only [spec_l07Read.l0] at H
      replace H := znif H; rcases H with ⟨c53, H⟩ | ⟨c53, H⟩
      case inl =>
       obtain ⟨rfl, rfl, rfl⟩ := zsome3 H
       go_wp2_with ((with_reducible refine gate_store (p := 6) rfl ?_); refine ev_st 0 0 HS (seg := [.int .i64 (wrap64 (bt a0 a1)), .string (⟨#[]⟩ : ByteArray), .slice B50 l49.length d50]) ?_; clear HS; intro w76 HS F)
       exact bodyPost_ret (results_list (rs := [.cell 6 66, .tmp 7, .tmp 8]) rfl (by simp) (.cell _ _ _ _ _ rfl (HS.boxAt (i := 0) rfl) Tryz.underlying66 rfl (by kernel_rfl) (.tmp (.tmp .nil)))) rfl ⟨_, rfl, HS.pick [2] (by decide) (by rfl)⟩
      replace H := zgo H; obtain ⟨c54, H⟩ := H
      replace H := zgo H; obtain ⟨c55, H⟩ := H
      replace H := zbind H; obtain ⟨t56, ht56, H⟩ := H
      replace H := znifb H; rcases H with ⟨c63, H⟩ | ⟨c63, H⟩
      case inl =>
       obtain ⟨rfl, rfl, rfl⟩ := zsome3 H
       go_wp2_with (first | ((with_reducible refine gd 75 rfl ?_); refine ev_val rfl (run_cut rfl rfl Tryz.underlying9 (.inl ⟨rfl, rfl⟩) (.inr ⟨_, _, rfl, rfl, by have := of_eq_true (eq_true (by decide : (0:Int) ≤ 0)); have := of_eq_true c54; have := of_eq_true c55; omega⟩) (by have := of_eq_true (eq_true (by decide : (0:Int) ≤ 0)); have := of_eq_true c54; have := of_eq_true c55; omega) (by have := of_eq_true (eq_true (by decide : (0:Int) ≤ 0)); have := of_eq_true c54; have := of_eq_true c55; omega)) ?_) | ((with_reducible refine gd 79 rfl ?_); refine ev_cl1 HS (IH (by have := HK0.out; have := HKk48.out; omega) ht56.out) Tryz.func81 ?_; clear HS; intro v57 wt56 HS F; obtain ⟨B57, d57, rfl, m57⟩ := HS.form 3 rfl) | ((with_reducible refine gd 14 rfl ?_); refine ev_bx HS ?_; clear HS; intro g14 w14 HS F) | ((with_reducible refine gate_store (p := 14) rfl ?_); refine ev_st 4 0 HS (seg := [.int .i64 t56.1.f0, .string t56.1.f1, .slice B57 t56.1.f2.length d57]) ?_; clear HS; intro w61 HS F; (try simp only [c63])) | ((with_reducible refine gate_store (p := 6) rfl ?_); refine ev_st 0 0 HS (seg := [.int .i64 0, .string (⟨#[]⟩ : ByteArray), .slice none 0 0]) ?_; clear HS; intro w74 HS F))
       replace HS := HS.nil 66 q66
       exact bodyPost_ret (results_list (rs := [.cell 6 66, .tmp 7, .tmp 8]) rfl (by simp) (.cell _ _ _ _ _ rfl (HS.boxAt (i := 0) rfl) Tryz.underlying66 rfl (by kernel_rfl) (.tmp (.tmp .nil)))) rfl ⟨_, rfl, HS.pick [5] (by decide) (by rfl)⟩
      go_upto_if 90 with (first | ((with_reducible refine gd 75 rfl ?_); refine ev_val rfl (run_cut rfl rfl Tryz.underlying9 (.inl ⟨rfl, rfl⟩) (.inr ⟨_, _, rfl, rfl, by have := of_eq_true (eq_true (by decide : (0:Int) ≤ 0)); have := of_eq_true c54; have := of_eq_true c55; omega⟩) (by have := of_eq_true (eq_true (by decide : (0:Int) ≤ 0)); have := of_eq_true c54; have := of_eq_true c55; omega) (by have := of_eq_true (eq_true (by decide : (0:Int) ≤ 0)); have := of_eq_true c54; have := of_eq_true c55; omega)) ?_) | ((with_reducible refine gd 79 rfl ?_); refine ev_cl1 HS (IH (by have := HK0.out; have := HKk48.out; omega) ht56.out) Tryz.func81 ?_; clear HS; intro v57 wt56 HS F; obtain ⟨B57, d57, rfl, m57⟩ := HS.form 3 rfl) | ((with_reducible refine gd 14 rfl ?_); refine ev_bx HS ?_; clear HS; intro g14 w14 HS F) | ((with_reducible refine gate_store (p := 14) rfl ?_); refine ev_st 4 0 HS (seg := [.int .i64 t56.1.f0, .string t56.1.f1, .slice B57 t56.1.f2.length d57]) ?_; clear HS; intro w61 HS F; (try simp only [c63])))
      replace H := zif H; rcases H with ⟨c64, H⟩ | ⟨c64, H⟩
      case inl =>
       (try simp only [c64, dcn])
       obtain ⟨rfl, rfl, rfl⟩ := zsome3 H
       go_wp2_with ((with_reducible refine gate_store (p := 6) rfl ?_); refine ev_st 0 0 HS (seg := [.int .i64 0, .string (⟨#[]⟩ : ByteArray), .slice none 0 0]) ?_; clear HS; intro w65 HS F)
       replace HS := HS.nil 66 q66
       exact bodyPost_ret (results_list (rs := [.cell 6 66, .tmp 7, .tmp 8]) rfl (by simp) (.cell _ _ _ _ _ rfl (HS.boxAt (i := 0) rfl) Tryz.underlying66 rfl (by kernel_rfl) (.tmp (.tmp .nil)))) rfl ⟨_, rfl, HS.pick [5] (by decide) (by rfl)⟩
      (try simp only [c64, dcn])
      replace H := zgo H; obtain ⟨c69, H⟩ := H
      replace H := zlets H; obtain ⟨y70, e_y70, H⟩ := H
      go_wp2_with (first | ((with_reducible refine gd 95 rfl ?_); refine ev_li q66 [3] ([t56.1] : List S66) ([.int .i64 t56.1.f0, .string t56.1.f1, .slice B57 t56.1.f2.length d57] ++ []) HS (MadeL.cons (js1 := [3]) (c := [.int .i64 t56.1.f0, .string t56.1.f1, .slice B57 t56.1.f2.length d57]) rfl (fun S hd hh => q66_pack (x := t56.1) hd (hh 3 (.own (Zd.slice 66 q66) t56.1.f2 [.slice B57 t56.1.f2.length d57]) rfl) (by decide)) MadeL.nil (by decide)) ?_; clear HS; intro v67 w67 HS F; obtain ⟨B67, d67, rfl, m67⟩ := HS.formn 1 5 rfl rfl) | ((with_reducible refine gd 96 rfl ?_); refine ev_ap q66 2 5 HS rfl rfl Tryz.underlying64 info66 (of_eq_true c69) ?_; clear HS; intro v70 w70 HS; rw [← e_y70.out] at HS; obtain ⟨B70, d70, rfl, m70⟩ := HS.form 6 rfl; (try simp only [hpn, hpm] at HS); have F := HS.boxes; simp only [bxn] at F) | ((with_reducible refine gate_store (p := 97) rfl ?_); refine ev_st 1 2 HS (seg := [.slice B70 y70.length d70]) ?_; clear HS; intro w72 HS F))
      go_roundg k48
      case measure => have := HK0.out; have := HKk48.out; omega
      case rel => exact ⟨_, _, _, rfl, H, ⟨by have := HK0.out; have := HKk48.out; omega⟩, HS.pick [0, 1, 6] (by decide) (by rfl)⟩
theorem spec_l07Read.calls {k : Nat} {a0 : ByteArray} {a1 : Int} {a2 : Int} {r1 : S66} {r2 : Int} {r3 : Bool} {w : World} (h : spec_l07Read.f k a0 a1 a2 = some (r1, r2, r3)) :
    Calls Tryz.prog 81 #[.string a0, .int .i64 a1, .int .i64 a2] w (fun e w' => ∃ v0_ : Value, e = .returned (.tuple #[.agg #[.int .i64 r1.f0, .string r1.f1, v0_], .int .i64 r2, .bool r3]) ∧ Hp noFP w w' [.own (Zd.slice 66 q66) r1.f2 [v0_]]) := spec_l07Read.calls_ k (Nat.le_refl k) h
end Go.Proofs.YtfcpjeeeddjakaaGreat.F
