/- Functions of the program and of the law, and that their calls do what is written here. -/
import Derived.Test.YtacocpknielofaaGreatDoorZgFnExactStoreOka
namespace Go.Proofs.YtacocpknielofaaGreatDoor.F
open Go.RowKit Go.Proofs.YtacocpknielofaaGreatDoorW.PrintWords Go.Proofs.YtacocpknielofaaGreatDoorW.PrintLast Go.Proofs.YtacocpknielofaaGreatDoorW.PrintMore Go.Proofs.YtacocpknielofaaGreatDoor.Z
attribute [local go_sem] max2_int min2_int max_two min_two max_three min_three max_four min_four
set_option linter.unusedVariables false
set_option linter.unusedSimpArgs false
set_option maxRecDepth 100000
/-! ### spec_NamesOk: function 185 -/
def spec_NamesOk.l0 : Nat → Int → (List ByteArray) → Option (Bool)
  | 0, _, _ => none
  | k + 1, x4, a0 => (if x4 < (a0.length : Int) then (if 0 ≤ x4 then (if x4 < (a0.length : Int) then ((spec_NameOk.f k (rdOf ByteArray.empty a0 x4)).bind fun t104001 => (if t104001 = true then (if 0 < x4 then (if 0 ≤ (wrap64 (x4 - 1)) then (if (wrap64 (x4 - 1)) < (a0.length : Int) then (if (Op.bytesLess ((rdOf ByteArray.empty a0 (wrap64 (x4 - 1))).toList) ((rdOf ByteArray.empty a0 x4).toList)) = true then (spec_NamesOk.l0 k (wrap64 (x4 + 1)) a0) else (some false)) else none) else none) else (spec_NamesOk.l0 k (wrap64 (x4 + 1)) a0)) else (some false))) else none) else none) else (some (decide ((a0.length : Int) ≤ 4))))
def spec_NamesOk.f (k : Nat) (a0 : (List ByteArray)) : Option (Bool) := (spec_NamesOk.l0 k 0 a0)
def spec_NamesOk.T4 : Bool × List (List Nat × List Nat) := (true, [([], []), ([], []), ([0, 1], [0, 1]), ([2], [2]), ([3], [3]), ([4], [4]), ([5, 4], [5]), ([6], [6]), ([7, 6], [6, 7]), ([8, 6, 6], [6, 8]), ([9], [9]), ([9], [9]), ([11, 9], [9, 11]), ([10, 12, 9], [9, 10, 12]), ([13, 9], [9, 13]), ([9], [9]), ([9], [9]), ([15, 16, 9], [9, 15, 16]), ([17, 9], [9, 17]), ([14, 18, 9], [9, 14, 18]), ([9, 19, 6], [6, 9, 19]), ([6, 20], [6, 20])])
theorem spec_NamesOk.tT4 : rtab .any (opsOf Tryz.f185 4) = spec_NamesOk.T4 := by kernel_rfl
set_option maxHeartbeats 16000000 in
theorem spec_NamesOk.calls {k : Nat} {a0 : (List ByteArray)} {Ap0 : Option Addr} {np0 cp0 : Nat} {r : Bool} {w : World} (h : spec_NamesOk.f k a0 = some r) (gp0 : Kd.string.C w Ap0 np0 a0) (lp0 : np0 ≤ cp0) :
    Calls Tryz.prog 185 #[.slice Ap0 np0 cp0] w (fun e w' => e = .returned (.bool r) ∧ Hp noFP w w' []) := by
 obtain rfl := C_len gp0
 have HS := Hp.start w
 have H := Aside0.mk h
 clear h
 unfold spec_NamesOk.f at H
 go_enter Tryz.func185, Tryz.ntmps185
 go_wp2
 go_loopg [3] k (fun kq v_3 w' => ∃ (x4 : Int), v_3 = .int .i64 x4 ∧ Aside0 (spec_NamesOk.l0 kq x4 a0 = some r) ∧ Aside0 (kq ≤ k) ∧ Hp noFP w w' [])
 case atStart => exact ⟨_, rfl, H, ⟨Nat.le_refl _⟩, HS⟩
 case round =>
  clear HS H; (try clear F)
  obtain ⟨x4, rfl, H, HKk3, HS⟩ := hrel
  cases gk with
  | zero => exact absurd H.out (by simp [spec_NamesOk.l0])
  | succ k3 =>
   simp only [spec_NamesOk.l0] at H
   by_cases c6 : x4 < (a0.length : Int)
   case neg =>
    replace H := zneg c6 H
    replace c6 := eq_false c6
    obtain rfl := zsome H
    go_wp2
    go_ret
    exact ⟨rfl, HS.pick [] (by decide) (by rfl)⟩
   replace H := zpos c6 H
   replace c6 := eq_true c6
   (try go_wp2)
   by_cases c102001 : 0 ≤ x4
   case neg => exact zno c102001 H
   replace H := zpos c102001 H
   replace c102001 := eq_true c102001
   by_cases c102002 : x4 < (a0.length : Int)
   case neg => exact zno c102002 H
   replace H := zpos c102002 H
   replace c102002 := eq_true c102002
   obtain ⟨ad102999, rfl, e102999_0⟩ := Kd.at_string gp0 x4 (of_eq_true c102001) (of_eq_true c102002)
   replace H := zbind H; obtain ⟨t104001, ht104001, H⟩ := H
   by_cases c106001 : t104001 = true
   case neg =>
    replace H := zneg c106001 H
    replace c106001 := eq_false_of_ne_true c106001
    subst c106001
    refine dr_start [] HS #[false, false, false, false, false, false, false, false, false, false, false, false, false, false, false, false, false, false, false, false, false, false] (by kernel_rfl) rfl rfl spec_NamesOk.tT4 (fun w13 HT HS HH => ?_)
    (try clear F)
    refine drq_of [(0, some 10), (1, some 11), (2, some 12)] ?_
    repeat (first | (refine drq_pure HT (v := ?_) (a' := ?_) rfl rfl (by kernel_rfl) (fun _ _ _ h => h) (.inl ⟨by rfl, ?_⟩) ?_ ?_; rotate_left; (intro w'; go_simp; with_reducible rfl); rotate_left; (simp only [Act.put, ptn]; rfl)))
    refine drq_end ?_
    refine dr_take 3 (some 13) HT HH (v := ?_) (a' := ?_) rfl rfl (by kernel_rfl) (fun _ _ _ h => h) (.inl ⟨by rfl, ?_⟩) ?_ ?_
    rotate_left
    · rintro w' ⟨rs', HS'⟩; have e102999_0 := (HS'.keepc e102999_0); go_simp; with_reducible rfl
    rotate_left
    · simp only [Act.put, ptn]; rfl
    refine dr_one 4 HT rfl (by kernel_rfl) (by decide) (fun K hK => ?_)
    refine goes_ Tryz.func139 (by kernel_rfl) rfl #[.string (rdOf ByteArray.empty a0 x4)] (by rfl) rfl rfl (by simp only [mpn]; rfl) ?_; refine (spec_NameOk.calls ht104001.out).mono ?_; rintro _ wt104001 ⟨rfl, HQ⟩; refine ⟨_, rfl, ?_⟩; replace HS := HS.call HQ; clear HQ; (try clear F)
    (try simp only [hpn, hpm] at HS)
    refine hK.out _ _ ⟨_, HS⟩ (fun HH => ?_)
    clear hK K
    refine norm_ (a' := ?_) ?_ ?_
    rotate_left
    · show Act.put _ (some 14) _ = _; simp only [Act.put, ptn]; rfl
    refine drq_of [(5, some 15), (6, some 16), (7, some 17), (8, some 18), (9, some 19), (10, some 20), (11, some 21), (12, some 22), (13, some 23), (14, some 24), (15, some 25), (16, some 26), (17, some 27), (18, some 28), (19, some 29), (20, some 30), (21, some 31)] ?_
    repeat (first | (refine drq_pure HT (v := ?_) (a' := ?_) rfl rfl (by kernel_rfl) (fun _ _ _ h => h) (.inl ⟨by rfl, ?_⟩) ?_ ?_; rotate_left; (intro w'; go_simp; with_reducible rfl); rotate_left; (simp only [Act.put, ptn]; rfl)) | (refine drq_pure HT (v := undef) (a' := ?_) rfl rfl (by kernel_rfl) (fun _ _ _ h => h) (.inr ⟨by rfl, rfl⟩) ?_ ?_; rotate_left; (simp only [Act.put, ptn]; rfl)))
    refine drq_end ?_
    refine done_ (done_of HT.out (by kernel_rfl)) ?_
    obtain rfl := zsome H
    go_wp2
    go_ret
    exact ⟨rfl, HS.pick [] (by decide) (by rfl)⟩
   replace H := zpos c106001 H
   subst c106001
   by_cases c109001 : 0 < x4
   case neg =>
    replace H := zneg c109001 H
    replace c109001 := eq_false c109001
    refine dr_start [] HS #[false, false, false, false, false, false, false, false, false, false, false, false, false, false, false, false, false, false, false, false, false, false] (by kernel_rfl) rfl rfl spec_NamesOk.tT4 (fun w11 HT HS HH => ?_)
    (try clear F)
    refine drq_of [(0, some 10), (1, some 11), (2, some 12)] ?_
    repeat (first | (refine drq_pure HT (v := ?_) (a' := ?_) rfl rfl (by kernel_rfl) (fun _ _ _ h => h) (.inl ⟨by rfl, ?_⟩) ?_ ?_; rotate_left; (intro w'; go_simp; with_reducible rfl); rotate_left; (simp only [Act.put, ptn]; rfl)))
    refine drq_end ?_
    refine dr_take 3 (some 13) HT HH (v := ?_) (a' := ?_) rfl rfl (by kernel_rfl) (fun _ _ _ h => h) (.inl ⟨by rfl, ?_⟩) ?_ ?_
    rotate_left
    · rintro w' ⟨rs', HS'⟩; have e102999_0 := (HS'.keepc e102999_0); go_simp; with_reducible rfl
    rotate_left
    · simp only [Act.put, ptn]; rfl
    refine dr_one 4 HT rfl (by kernel_rfl) (by decide) (fun K hK => ?_)
    refine goes_ Tryz.func139 (by kernel_rfl) rfl #[.string (rdOf ByteArray.empty a0 x4)] (by rfl) rfl rfl (by simp only [mpn]; rfl) ?_; refine (spec_NameOk.calls ht104001.out).mono ?_; rintro _ wt104001 ⟨rfl, HQ⟩; refine ⟨_, rfl, ?_⟩; replace HS := HS.call HQ; clear HQ; (try clear F)
    (try simp only [hpn, hpm] at HS)
    refine hK.out _ _ ⟨_, HS⟩ (fun HH => ?_)
    clear hK K
    refine norm_ (a' := ?_) ?_ ?_
    rotate_left
    · show Act.put _ (some 14) _ = _; simp only [Act.put, ptn]; rfl
    refine drq_of [(5, some 15), (6, some 16), (7, some 17), (8, some 18), (9, some 19), (10, some 20), (11, some 21), (12, some 22), (13, some 23), (14, some 24), (15, some 25), (16, some 26), (17, some 27), (18, some 28), (19, some 29), (20, some 30), (21, some 31)] ?_
    repeat (first | (refine drq_pure HT (v := ?_) (a' := ?_) rfl rfl (by kernel_rfl) (fun _ _ _ h => h) (.inl ⟨by rfl, ?_⟩) ?_ ?_; rotate_left; (intro w'; go_simp; with_reducible rfl); rotate_left; (simp only [Act.put, ptn]; rfl)) | (refine drq_pure HT (v := undef) (a' := ?_) rfl rfl (by kernel_rfl) (fun _ _ _ h => h) (.inr ⟨by rfl, rfl⟩) ?_ ?_; rotate_left; (simp only [Act.put, ptn]; rfl)))
    refine drq_end ?_
    refine done_ (done_of HT.out (by kernel_rfl)) ?_
    go_wp2
    go_roundg k3
    case measure => have := HKk3.out; omega
    case rel => exact ⟨_, rfl, H, ⟨by have := HKk3.out; omega⟩, HS.pick [] (by decide) (by rfl)⟩
   replace H := zpos c109001 H
   replace c109001 := eq_true c109001
   by_cases c113001 : 0 ≤ (wrap64 (x4 - 1))
   case neg => exact zno c113001 H
   replace H := zpos c113001 H
   replace c113001 := eq_true c113001
   by_cases c113002 : (wrap64 (x4 - 1)) < (a0.length : Int)
   case neg => exact zno c113002 H
   replace H := zpos c113002 H
   replace c113002 := eq_true c113002
   obtain ⟨ad113999, hq113999, e113999_0⟩ := Kd.at_string gp0 (wrap64 (x4 - 1)) (of_eq_true c113001) (of_eq_true c113002); obtain rfl := Option.some.inj hq113999
   refine dr_start [] HS #[false, false, false, false, false, false, false, false, false, false, false, false, false, false, false, false, false, false, false, false, false, false] (by kernel_rfl) rfl rfl spec_NamesOk.tT4 (fun w8 HT HS HH => ?_)
   (try clear F)
   refine drq_of [(0, some 10), (1, some 11), (2, some 12)] ?_
   repeat (first | (refine drq_pure HT (v := ?_) (a' := ?_) rfl rfl (by kernel_rfl) (fun _ _ _ h => h) (.inl ⟨by rfl, ?_⟩) ?_ ?_; rotate_left; (intro w'; go_simp; with_reducible rfl); rotate_left; (simp only [Act.put, ptn]; rfl)))
   refine drq_end ?_
   refine dr_take 3 (some 13) HT HH (v := ?_) (a' := ?_) rfl rfl (by kernel_rfl) (fun _ _ _ h => h) (.inl ⟨by rfl, ?_⟩) ?_ ?_
   rotate_left
   · rintro w' ⟨rs', HS'⟩; have e102999_0 := (HS'.keepc e102999_0); go_simp; with_reducible rfl
   rotate_left
   · simp only [Act.put, ptn]; rfl
   refine dr_one 4 HT rfl (by kernel_rfl) (by decide) (fun K hK => ?_)
   refine goes_ Tryz.func139 (by kernel_rfl) rfl #[.string (rdOf ByteArray.empty a0 x4)] (by rfl) rfl rfl (by simp only [mpn]; rfl) ?_; refine (spec_NameOk.calls ht104001.out).mono ?_; rintro _ wt104001 ⟨rfl, HQ⟩; refine ⟨_, rfl, ?_⟩; replace HS := HS.call HQ; clear HQ; (try clear F)
   (try simp only [hpn, hpm] at HS)
   refine hK.out _ _ ⟨_, HS⟩ (fun HH => ?_)
   clear hK K
   refine norm_ (a' := ?_) ?_ ?_
   rotate_left
   · show Act.put _ (some 14) _ = _; simp only [Act.put, ptn]; rfl
   refine drq_of [(5, some 15), (6, some 16), (7, some 17), (8, some 18), (9, some 19), (10, some 20), (11, some 21), (12, some 22), (13, some 23)] ?_
   repeat (first | (refine drq_pure HT (v := ?_) (a' := ?_) rfl rfl (by kernel_rfl) (fun _ _ _ h => h) (.inl ⟨by rfl, ?_⟩) ?_ ?_; rotate_left; (intro w'; go_simp; with_reducible rfl); rotate_left; (simp only [Act.put, ptn]; rfl)))
   refine drq_end ?_
   refine dr_take 14 (some 24) HT HH (v := ?_) (a' := ?_) rfl rfl (by kernel_rfl) (fun _ _ _ h => h) (.inl ⟨by rfl, ?_⟩) ?_ ?_
   rotate_left
   · rintro w' ⟨rs', HS'⟩; have e113999_0 := (HS'.keepc e113999_0); go_simp; with_reducible rfl
   rotate_left
   · simp only [Act.put, ptn]; rfl
   refine drq_of [(15, some 25), (16, some 26), (17, some 27)] ?_
   repeat (first | (refine drq_pure HT (v := ?_) (a' := ?_) rfl rfl (by kernel_rfl) (fun _ _ _ h => h) (.inl ⟨by rfl, ?_⟩) ?_ ?_; rotate_left; (intro w'; go_simp; with_reducible rfl); rotate_left; (simp only [Act.put, ptn]; rfl)))
   refine drq_end ?_
   refine dr_take 18 (some 28) HT HH (v := ?_) (a' := ?_) rfl rfl (by kernel_rfl) (fun _ _ _ h => h) (.inl ⟨by rfl, ?_⟩) ?_ ?_
   rotate_left
   · rintro w' ⟨rs', HS'⟩; have e102999_0 := (HS'.keepc e102999_0); go_simp; with_reducible rfl
   rotate_left
   · simp only [Act.put, ptn]; rfl
   refine drq_of [(19, some 29), (20, some 30), (21, some 31)] ?_
   repeat (first | (refine drq_pure HT (v := ?_) (a' := ?_) rfl rfl (by kernel_rfl) (fun _ _ _ h => h) (.inl ⟨by rfl, ?_⟩) ?_ ?_; rotate_left; (intro w'; go_simp; with_reducible rfl); rotate_left; (simp only [Act.put, ptn]; rfl)))
   refine drq_end ?_
   refine done_ (done_of HT.out (by kernel_rfl)) ?_
   by_cases c10 : (Op.bytesLess ((rdOf ByteArray.empty a0 (wrap64 (x4 - 1))).toList) ((rdOf ByteArray.empty a0 x4).toList)) = true
   case neg =>
    replace H := zneg c10 H
    replace c10 := eq_false_of_ne_true c10
    (try simp only [c10, dcn])
    obtain rfl := zsome H
    go_wp2
    go_ret
    exact ⟨rfl, HS.pick [] (by decide) (by rfl)⟩
   replace H := zpos c10 H
   (try simp only [c10, dcn])
   go_wp2
   go_roundg k3
   case measure => have := HKk3.out; omega
   case rel => exact ⟨_, rfl, H, ⟨by have := HKk3.out; omega⟩, HS.pick [] (by decide) (by rfl)⟩
/-! ### spec_l09Num: function 75 -/
def spec_l09Num.f (a0 : Int) : Option (Bool) := ((spec_l01In.f a0 0 9999).bind fun t1 => (some t1))
set_option maxHeartbeats 16000000 in
theorem spec_l09Num.calls {a0 : Int} {r : Bool} {w : World} (h : spec_l09Num.f a0 = some r) :
    Calls Tryz.prog 75 #[.int .i64 a0] w (fun e w' => e = .returned (.bool r) ∧ Hp noFP w w' []) := by
 have HS := Hp.start w
 have H := Aside0.mk h
 clear h
 unfold spec_l09Num.f at H
 go_enter Tryz.func75, Tryz.ntmps75
 replace H := zbind H; obtain ⟨t1, ht1, H⟩ := H
 obtain rfl := zsome H
 go_wp2_with (first | ((with_reducible refine gate_dst (N := 4) rfl ?_); refine ev_call rfl Tryz.func74 (by kernel_rfl) rfl #[.int .i64 a0, .int .i64 0, .int .i64 9999] rfl (by simp only [mpn]; rfl) ?_; refine (spec_l01In.calls ht1.out).mono ?_; rintro _ wt1 ⟨rfl, HQ⟩; refine ⟨_, rfl, ?_⟩; replace HS := HS.call HQ; clear HQ; (try clear F); (try simp only [hpn, hpm] at HS)))
 go_ret
 exact ⟨rfl, HS.pick [] (by decide) (by rfl)⟩
/-! ### spec_CertOk: function 122 -/
def spec_CertOk.f (k : Nat) (a0 : S91) : Option (Bool) := ((spec_l09Num.f a0.f0).bind fun t3 => (if t3 = true then ((spec_l09Num.f a0.f3).bind fun t6 => (if t6 = true then ((spec_l09Num.f a0.f4).bind fun t9 => (if t9 = true then ((spec_NameOk.f k a0.f1).bind fun t12 => (if t12 = true then ((spec_NameOk.f k a0.f2).bind fun t15 => (if t15 = true then (if (a0.f5.size : Int) = 15 then ((spec_l01In.f a0.f7 0 99).bind fun t19 => (if t19 = true then ((spec_l01In.f a0.f8 0 7).bind fun t22 => (if t22 = true then ((spec_PoliciesOk.f k a0.f9).bind fun t25 => (if t25 = true then ((spec_NamesOk.f k a0.f10).bind fun t28 => (if t28 = true then ((spec_NamesOk.f k a0.f11).bind fun t31 => (if t31 = true then (some ((a0.f12.size : Int) == 15)) else (some false))) else (some false))) else (some false))) else (some false))) else (some false))) else (some false)) else (some false))) else (some false))) else (some false))) else (some false))) else (some false)))
set_option maxHeartbeats 16000000 in
theorem spec_CertOk.calls {k : Nat} {a0 : S91} {Ap0 : Option Addr} {np0 cp0 : Nat} {Ap1 : Option Addr} {np1 cp1 : Nat} {Ap2 : Option Addr} {np2 cp2 : Nat} {r : Bool} {w : World} (h : spec_CertOk.f k a0 = some r) (gp0 : (Kd.int .i64).C w Ap0 np0 a0.f9) (lp0 : np0 ≤ cp0) (gp1 : Kd.string.C w Ap1 np1 a0.f10) (lp1 : np1 ≤ cp1) (gp2 : Kd.string.C w Ap2 np2 a0.f11) (lp2 : np2 ≤ cp2) :
    Calls Tryz.prog 122 #[.agg #[.int .i64 a0.f0, .string a0.f1, .string a0.f2, .int .i64 a0.f3, .int .i64 a0.f4, .string a0.f5, .bool a0.f6, .int .i64 a0.f7, .int .i64 a0.f8, .slice Ap0 np0 cp0, .slice Ap1 np1 cp1, .slice Ap2 np2 cp2, .string a0.f12]] w (fun e w' => e = .returned (.bool r) ∧ Hp noFP w w' []) := by
 obtain rfl := C_len gp0
 obtain rfl := C_len gp1
 obtain rfl := C_len gp2
 have HS := Hp.start w
 have H := Aside0.mk h
 clear h
 unfold spec_CertOk.f at H
 go_enter Tryz.func122, Tryz.ntmps122
 replace H := zbind H; obtain ⟨t3, ht3, H⟩ := H
 by_cases c5 : t3 = true
 case neg =>
  replace H := zneg c5 H
  replace c5 := eq_false_of_ne_true c5
  subst c5
  obtain rfl := zsome H
  go_wp2_with (first | ((with_reducible refine gate_dst (N := 1) rfl ?_); refine ev_box rfl HS (by first | (go_simp; done) | (go_simp; rfl)) rfl ?_; clear HS; (try clear F); intro g1 w1 HS; (try simp only [hpn, hpm] at HS); have F := HS.boxes; simp only [bxn] at F) | ((with_reducible refine gate_dst (N := 5) rfl ?_); refine ev_call rfl Tryz.func75 (by kernel_rfl) rfl #[.int .i64 a0.f0] rfl (by simp only [mpn]; rfl) ?_; refine (spec_l09Num.calls ht3.out).mono ?_; rintro _ wt3 ⟨rfl, HQ⟩; refine ⟨_, rfl, ?_⟩; replace HS := HS.call HQ; clear HQ; (try clear F); (try simp only [hpn, hpm] at HS); have F := HS.boxes; simp only [bxn] at F))
  go_ret
  exact ⟨rfl, HS.pick [] (by decide) (by rfl)⟩
 replace H := zpos c5 H
 subst c5
 replace H := zbind H; obtain ⟨t6, ht6, H⟩ := H
 by_cases c8 : t6 = true
 case neg =>
  replace H := zneg c8 H
  replace c8 := eq_false_of_ne_true c8
  subst c8
  obtain rfl := zsome H
  go_wp2_with (first | ((with_reducible refine gate_dst (N := 1) rfl ?_); refine ev_box rfl HS (by first | (go_simp; done) | (go_simp; rfl)) rfl ?_; clear HS; (try clear F); intro g1 w1 HS; (try simp only [hpn, hpm] at HS); have F := HS.boxes; simp only [bxn] at F) | ((with_reducible refine gate_dst (N := 5) rfl ?_); refine ev_call rfl Tryz.func75 (by kernel_rfl) rfl #[.int .i64 a0.f0] rfl (by simp only [mpn]; rfl) ?_; refine (spec_l09Num.calls ht3.out).mono ?_; rintro _ wt3 ⟨rfl, HQ⟩; refine ⟨_, rfl, ?_⟩; replace HS := HS.call HQ; clear HQ; (try clear F); (try simp only [hpn, hpm] at HS); have F := HS.boxes; simp only [bxn] at F) | ((with_reducible refine gate_dst (N := 9) rfl ?_); refine gate_guard (by rfl) ?_; refine ev_call rfl Tryz.func75 (by kernel_rfl) rfl #[.int .i64 a0.f3] rfl (by simp only [mpn]; rfl) ?_; refine (spec_l09Num.calls ht6.out).mono ?_; rintro _ wt6 ⟨rfl, HQ⟩; refine ⟨_, rfl, ?_⟩; replace HS := HS.call HQ; clear HQ; (try clear F); (try simp only [hpn, hpm] at HS); have F := HS.boxes; simp only [bxn] at F))
  go_ret
  exact ⟨rfl, HS.pick [] (by decide) (by rfl)⟩
 replace H := zpos c8 H
 subst c8
 replace H := zbind H; obtain ⟨t9, ht9, H⟩ := H
 by_cases c11 : t9 = true
 case neg =>
  replace H := zneg c11 H
  replace c11 := eq_false_of_ne_true c11
  subst c11
  obtain rfl := zsome H
  go_wp2_with (first | ((with_reducible refine gate_dst (N := 1) rfl ?_); refine ev_box rfl HS (by first | (go_simp; done) | (go_simp; rfl)) rfl ?_; clear HS; (try clear F); intro g1 w1 HS; (try simp only [hpn, hpm] at HS); have F := HS.boxes; simp only [bxn] at F) | ((with_reducible refine gate_dst (N := 5) rfl ?_); refine ev_call rfl Tryz.func75 (by kernel_rfl) rfl #[.int .i64 a0.f0] rfl (by simp only [mpn]; rfl) ?_; refine (spec_l09Num.calls ht3.out).mono ?_; rintro _ wt3 ⟨rfl, HQ⟩; refine ⟨_, rfl, ?_⟩; replace HS := HS.call HQ; clear HQ; (try clear F); (try simp only [hpn, hpm] at HS); have F := HS.boxes; simp only [bxn] at F) | ((with_reducible refine gate_dst (N := 9) rfl ?_); refine gate_guard (by rfl) ?_; refine ev_call rfl Tryz.func75 (by kernel_rfl) rfl #[.int .i64 a0.f3] rfl (by simp only [mpn]; rfl) ?_; refine (spec_l09Num.calls ht6.out).mono ?_; rintro _ wt6 ⟨rfl, HQ⟩; refine ⟨_, rfl, ?_⟩; replace HS := HS.call HQ; clear HQ; (try clear F); (try simp only [hpn, hpm] at HS); have F := HS.boxes; simp only [bxn] at F) | ((with_reducible refine gate_dst (N := 14) rfl ?_); refine gate_guard (by rfl) ?_; refine ev_call rfl Tryz.func75 (by kernel_rfl) rfl #[.int .i64 a0.f4] rfl (by simp only [mpn]; rfl) ?_; refine (spec_l09Num.calls ht9.out).mono ?_; rintro _ wt9 ⟨rfl, HQ⟩; refine ⟨_, rfl, ?_⟩; replace HS := HS.call HQ; clear HQ; (try clear F); (try simp only [hpn, hpm] at HS); have F := HS.boxes; simp only [bxn] at F))
  go_ret
  exact ⟨rfl, HS.pick [] (by decide) (by rfl)⟩
 replace H := zpos c11 H
 subst c11
 replace H := zbind H; obtain ⟨t12, ht12, H⟩ := H
 by_cases c14 : t12 = true
 case neg =>
  replace H := zneg c14 H
  replace c14 := eq_false_of_ne_true c14
  subst c14
  obtain rfl := zsome H
  go_wp2_with (first | ((with_reducible refine gate_dst (N := 1) rfl ?_); refine ev_box rfl HS (by first | (go_simp; done) | (go_simp; rfl)) rfl ?_; clear HS; (try clear F); intro g1 w1 HS; (try simp only [hpn, hpm] at HS); have F := HS.boxes; simp only [bxn] at F) | ((with_reducible refine gate_dst (N := 5) rfl ?_); refine ev_call rfl Tryz.func75 (by kernel_rfl) rfl #[.int .i64 a0.f0] rfl (by simp only [mpn]; rfl) ?_; refine (spec_l09Num.calls ht3.out).mono ?_; rintro _ wt3 ⟨rfl, HQ⟩; refine ⟨_, rfl, ?_⟩; replace HS := HS.call HQ; clear HQ; (try clear F); (try simp only [hpn, hpm] at HS); have F := HS.boxes; simp only [bxn] at F) | ((with_reducible refine gate_dst (N := 9) rfl ?_); refine gate_guard (by rfl) ?_; refine ev_call rfl Tryz.func75 (by kernel_rfl) rfl #[.int .i64 a0.f3] rfl (by simp only [mpn]; rfl) ?_; refine (spec_l09Num.calls ht6.out).mono ?_; rintro _ wt6 ⟨rfl, HQ⟩; refine ⟨_, rfl, ?_⟩; replace HS := HS.call HQ; clear HQ; (try clear F); (try simp only [hpn, hpm] at HS); have F := HS.boxes; simp only [bxn] at F) | ((with_reducible refine gate_dst (N := 14) rfl ?_); refine gate_guard (by rfl) ?_; refine ev_call rfl Tryz.func75 (by kernel_rfl) rfl #[.int .i64 a0.f4] rfl (by simp only [mpn]; rfl) ?_; refine (spec_l09Num.calls ht9.out).mono ?_; rintro _ wt9 ⟨rfl, HQ⟩; refine ⟨_, rfl, ?_⟩; replace HS := HS.call HQ; clear HQ; (try clear F); (try simp only [hpn, hpm] at HS); have F := HS.boxes; simp only [bxn] at F) | ((with_reducible refine gate_dst (N := 19) rfl ?_); refine gate_guard (by rfl) ?_; refine ev_call rfl Tryz.func139 (by kernel_rfl) rfl #[.string a0.f1] rfl (by simp only [mpn]; rfl) ?_; refine (spec_NameOk.calls ht12.out).mono ?_; rintro _ wt12 ⟨rfl, HQ⟩; refine ⟨_, rfl, ?_⟩; replace HS := HS.call HQ; clear HQ; (try clear F); (try simp only [hpn, hpm] at HS); have F := HS.boxes; simp only [bxn] at F))
  go_ret
  exact ⟨rfl, HS.pick [] (by decide) (by rfl)⟩
 replace H := zpos c14 H
 subst c14
 replace H := zbind H; obtain ⟨t15, ht15, H⟩ := H
 by_cases c17 : t15 = true
 case neg =>
  replace H := zneg c17 H
  replace c17 := eq_false_of_ne_true c17
  subst c17
  obtain rfl := zsome H
  go_wp2_with (first | ((with_reducible refine gate_dst (N := 1) rfl ?_); refine ev_box rfl HS (by first | (go_simp; done) | (go_simp; rfl)) rfl ?_; clear HS; (try clear F); intro g1 w1 HS; (try simp only [hpn, hpm] at HS); have F := HS.boxes; simp only [bxn] at F) | ((with_reducible refine gate_dst (N := 5) rfl ?_); refine ev_call rfl Tryz.func75 (by kernel_rfl) rfl #[.int .i64 a0.f0] rfl (by simp only [mpn]; rfl) ?_; refine (spec_l09Num.calls ht3.out).mono ?_; rintro _ wt3 ⟨rfl, HQ⟩; refine ⟨_, rfl, ?_⟩; replace HS := HS.call HQ; clear HQ; (try clear F); (try simp only [hpn, hpm] at HS); have F := HS.boxes; simp only [bxn] at F) | ((with_reducible refine gate_dst (N := 9) rfl ?_); refine gate_guard (by rfl) ?_; refine ev_call rfl Tryz.func75 (by kernel_rfl) rfl #[.int .i64 a0.f3] rfl (by simp only [mpn]; rfl) ?_; refine (spec_l09Num.calls ht6.out).mono ?_; rintro _ wt6 ⟨rfl, HQ⟩; refine ⟨_, rfl, ?_⟩; replace HS := HS.call HQ; clear HQ; (try clear F); (try simp only [hpn, hpm] at HS); have F := HS.boxes; simp only [bxn] at F) | ((with_reducible refine gate_dst (N := 14) rfl ?_); refine gate_guard (by rfl) ?_; refine ev_call rfl Tryz.func75 (by kernel_rfl) rfl #[.int .i64 a0.f4] rfl (by simp only [mpn]; rfl) ?_; refine (spec_l09Num.calls ht9.out).mono ?_; rintro _ wt9 ⟨rfl, HQ⟩; refine ⟨_, rfl, ?_⟩; replace HS := HS.call HQ; clear HQ; (try clear F); (try simp only [hpn, hpm] at HS); have F := HS.boxes; simp only [bxn] at F) | ((with_reducible refine gate_dst (N := 19) rfl ?_); refine gate_guard (by rfl) ?_; refine ev_call rfl Tryz.func139 (by kernel_rfl) rfl #[.string a0.f1] rfl (by simp only [mpn]; rfl) ?_; refine (spec_NameOk.calls ht12.out).mono ?_; rintro _ wt12 ⟨rfl, HQ⟩; refine ⟨_, rfl, ?_⟩; replace HS := HS.call HQ; clear HQ; (try clear F); (try simp only [hpn, hpm] at HS); have F := HS.boxes; simp only [bxn] at F) | ((with_reducible refine gate_dst (N := 24) rfl ?_); refine gate_guard (by rfl) ?_; refine ev_call rfl Tryz.func139 (by kernel_rfl) rfl #[.string a0.f2] rfl (by simp only [mpn]; rfl) ?_; refine (spec_NameOk.calls ht15.out).mono ?_; rintro _ wt15 ⟨rfl, HQ⟩; refine ⟨_, rfl, ?_⟩; replace HS := HS.call HQ; clear HQ; (try clear F); (try simp only [hpn, hpm] at HS); have F := HS.boxes; simp only [bxn] at F))
  go_ret
  exact ⟨rfl, HS.pick [] (by decide) (by rfl)⟩
 replace H := zpos c17 H
 subst c17
 by_cases c18 : (a0.f5.size : Int) = 15
 case neg =>
  replace H := zneg c18 H
  have c18a := beq_eq_false_iff_ne.mpr c18
  have c18b := bne_iff_ne.mpr c18
  clear c18
  obtain rfl := zsome H
  go_wp2_with (first | ((with_reducible refine gate_dst (N := 1) rfl ?_); refine ev_box rfl HS (by first | (go_simp; done) | (go_simp; rfl)) rfl ?_; clear HS; (try clear F); intro g1 w1 HS; (try simp only [hpn, hpm] at HS); have F := HS.boxes; simp only [bxn] at F) | ((with_reducible refine gate_dst (N := 5) rfl ?_); refine ev_call rfl Tryz.func75 (by kernel_rfl) rfl #[.int .i64 a0.f0] rfl (by simp only [mpn]; rfl) ?_; refine (spec_l09Num.calls ht3.out).mono ?_; rintro _ wt3 ⟨rfl, HQ⟩; refine ⟨_, rfl, ?_⟩; replace HS := HS.call HQ; clear HQ; (try clear F); (try simp only [hpn, hpm] at HS); have F := HS.boxes; simp only [bxn] at F) | ((with_reducible refine gate_dst (N := 9) rfl ?_); refine gate_guard (by rfl) ?_; refine ev_call rfl Tryz.func75 (by kernel_rfl) rfl #[.int .i64 a0.f3] rfl (by simp only [mpn]; rfl) ?_; refine (spec_l09Num.calls ht6.out).mono ?_; rintro _ wt6 ⟨rfl, HQ⟩; refine ⟨_, rfl, ?_⟩; replace HS := HS.call HQ; clear HQ; (try clear F); (try simp only [hpn, hpm] at HS); have F := HS.boxes; simp only [bxn] at F) | ((with_reducible refine gate_dst (N := 14) rfl ?_); refine gate_guard (by rfl) ?_; refine ev_call rfl Tryz.func75 (by kernel_rfl) rfl #[.int .i64 a0.f4] rfl (by simp only [mpn]; rfl) ?_; refine (spec_l09Num.calls ht9.out).mono ?_; rintro _ wt9 ⟨rfl, HQ⟩; refine ⟨_, rfl, ?_⟩; replace HS := HS.call HQ; clear HQ; (try clear F); (try simp only [hpn, hpm] at HS); have F := HS.boxes; simp only [bxn] at F) | ((with_reducible refine gate_dst (N := 19) rfl ?_); refine gate_guard (by rfl) ?_; refine ev_call rfl Tryz.func139 (by kernel_rfl) rfl #[.string a0.f1] rfl (by simp only [mpn]; rfl) ?_; refine (spec_NameOk.calls ht12.out).mono ?_; rintro _ wt12 ⟨rfl, HQ⟩; refine ⟨_, rfl, ?_⟩; replace HS := HS.call HQ; clear HQ; (try clear F); (try simp only [hpn, hpm] at HS); have F := HS.boxes; simp only [bxn] at F) | ((with_reducible refine gate_dst (N := 24) rfl ?_); refine gate_guard (by rfl) ?_; refine ev_call rfl Tryz.func139 (by kernel_rfl) rfl #[.string a0.f2] rfl (by simp only [mpn]; rfl) ?_; refine (spec_NameOk.calls ht15.out).mono ?_; rintro _ wt15 ⟨rfl, HQ⟩; refine ⟨_, rfl, ?_⟩; replace HS := HS.call HQ; clear HQ; (try clear F); (try simp only [hpn, hpm] at HS); have F := HS.boxes; simp only [bxn] at F))
  go_ret
  exact ⟨rfl, HS.pick [] (by decide) (by rfl)⟩
 replace H := zpos c18 H
 have c18a := beq_iff_eq.mpr c18
 have c18b := bne_eq_false_iff_eq.mpr c18
 clear c18
 replace H := zbind H; obtain ⟨t19, ht19, H⟩ := H
 by_cases c21 : t19 = true
 case neg =>
  replace H := zneg c21 H
  replace c21 := eq_false_of_ne_true c21
  subst c21
  obtain rfl := zsome H
  go_wp2_with (first | ((with_reducible refine gate_dst (N := 1) rfl ?_); refine ev_box rfl HS (by first | (go_simp; done) | (go_simp; rfl)) rfl ?_; clear HS; (try clear F); intro g1 w1 HS; (try simp only [hpn, hpm] at HS); have F := HS.boxes; simp only [bxn] at F) | ((with_reducible refine gate_dst (N := 5) rfl ?_); refine ev_call rfl Tryz.func75 (by kernel_rfl) rfl #[.int .i64 a0.f0] rfl (by simp only [mpn]; rfl) ?_; refine (spec_l09Num.calls ht3.out).mono ?_; rintro _ wt3 ⟨rfl, HQ⟩; refine ⟨_, rfl, ?_⟩; replace HS := HS.call HQ; clear HQ; (try clear F); (try simp only [hpn, hpm] at HS); have F := HS.boxes; simp only [bxn] at F) | ((with_reducible refine gate_dst (N := 9) rfl ?_); refine gate_guard (by rfl) ?_; refine ev_call rfl Tryz.func75 (by kernel_rfl) rfl #[.int .i64 a0.f3] rfl (by simp only [mpn]; rfl) ?_; refine (spec_l09Num.calls ht6.out).mono ?_; rintro _ wt6 ⟨rfl, HQ⟩; refine ⟨_, rfl, ?_⟩; replace HS := HS.call HQ; clear HQ; (try clear F); (try simp only [hpn, hpm] at HS); have F := HS.boxes; simp only [bxn] at F) | ((with_reducible refine gate_dst (N := 14) rfl ?_); refine gate_guard (by rfl) ?_; refine ev_call rfl Tryz.func75 (by kernel_rfl) rfl #[.int .i64 a0.f4] rfl (by simp only [mpn]; rfl) ?_; refine (spec_l09Num.calls ht9.out).mono ?_; rintro _ wt9 ⟨rfl, HQ⟩; refine ⟨_, rfl, ?_⟩; replace HS := HS.call HQ; clear HQ; (try clear F); (try simp only [hpn, hpm] at HS); have F := HS.boxes; simp only [bxn] at F) | ((with_reducible refine gate_dst (N := 19) rfl ?_); refine gate_guard (by rfl) ?_; refine ev_call rfl Tryz.func139 (by kernel_rfl) rfl #[.string a0.f1] rfl (by simp only [mpn]; rfl) ?_; refine (spec_NameOk.calls ht12.out).mono ?_; rintro _ wt12 ⟨rfl, HQ⟩; refine ⟨_, rfl, ?_⟩; replace HS := HS.call HQ; clear HQ; (try clear F); (try simp only [hpn, hpm] at HS); have F := HS.boxes; simp only [bxn] at F) | ((with_reducible refine gate_dst (N := 24) rfl ?_); refine gate_guard (by rfl) ?_; refine ev_call rfl Tryz.func139 (by kernel_rfl) rfl #[.string a0.f2] rfl (by simp only [mpn]; rfl) ?_; refine (spec_NameOk.calls ht15.out).mono ?_; rintro _ wt15 ⟨rfl, HQ⟩; refine ⟨_, rfl, ?_⟩; replace HS := HS.call HQ; clear HQ; (try clear F); (try simp only [hpn, hpm] at HS); have F := HS.boxes; simp only [bxn] at F) | ((with_reducible refine gate_dst (N := 35) rfl ?_); refine gate_guard (by rfl) ?_; refine ev_call rfl Tryz.func74 (by kernel_rfl) rfl #[.int .i64 a0.f7, .int .i64 0, .int .i64 99] rfl (by simp only [mpn]; rfl) ?_; refine (spec_l01In.calls ht19.out).mono ?_; rintro _ wt19 ⟨rfl, HQ⟩; refine ⟨_, rfl, ?_⟩; replace HS := HS.call HQ; clear HQ; (try clear F); (try simp only [hpn, hpm] at HS); have F := HS.boxes; simp only [bxn] at F))
  go_ret
  exact ⟨rfl, HS.pick [] (by decide) (by rfl)⟩
 replace H := zpos c21 H
 subst c21
 replace H := zbind H; obtain ⟨t22, ht22, H⟩ := H
 by_cases c24 : t22 = true
 case neg =>
  replace H := zneg c24 H
  replace c24 := eq_false_of_ne_true c24
  subst c24
  obtain rfl := zsome H
  go_wp2_with (first | ((with_reducible refine gate_dst (N := 1) rfl ?_); refine ev_box rfl HS (by first | (go_simp; done) | (go_simp; rfl)) rfl ?_; clear HS; (try clear F); intro g1 w1 HS; (try simp only [hpn, hpm] at HS); have F := HS.boxes; simp only [bxn] at F) | ((with_reducible refine gate_dst (N := 5) rfl ?_); refine ev_call rfl Tryz.func75 (by kernel_rfl) rfl #[.int .i64 a0.f0] rfl (by simp only [mpn]; rfl) ?_; refine (spec_l09Num.calls ht3.out).mono ?_; rintro _ wt3 ⟨rfl, HQ⟩; refine ⟨_, rfl, ?_⟩; replace HS := HS.call HQ; clear HQ; (try clear F); (try simp only [hpn, hpm] at HS); have F := HS.boxes; simp only [bxn] at F) | ((with_reducible refine gate_dst (N := 9) rfl ?_); refine gate_guard (by rfl) ?_; refine ev_call rfl Tryz.func75 (by kernel_rfl) rfl #[.int .i64 a0.f3] rfl (by simp only [mpn]; rfl) ?_; refine (spec_l09Num.calls ht6.out).mono ?_; rintro _ wt6 ⟨rfl, HQ⟩; refine ⟨_, rfl, ?_⟩; replace HS := HS.call HQ; clear HQ; (try clear F); (try simp only [hpn, hpm] at HS); have F := HS.boxes; simp only [bxn] at F) | ((with_reducible refine gate_dst (N := 14) rfl ?_); refine gate_guard (by rfl) ?_; refine ev_call rfl Tryz.func75 (by kernel_rfl) rfl #[.int .i64 a0.f4] rfl (by simp only [mpn]; rfl) ?_; refine (spec_l09Num.calls ht9.out).mono ?_; rintro _ wt9 ⟨rfl, HQ⟩; refine ⟨_, rfl, ?_⟩; replace HS := HS.call HQ; clear HQ; (try clear F); (try simp only [hpn, hpm] at HS); have F := HS.boxes; simp only [bxn] at F) | ((with_reducible refine gate_dst (N := 19) rfl ?_); refine gate_guard (by rfl) ?_; refine ev_call rfl Tryz.func139 (by kernel_rfl) rfl #[.string a0.f1] rfl (by simp only [mpn]; rfl) ?_; refine (spec_NameOk.calls ht12.out).mono ?_; rintro _ wt12 ⟨rfl, HQ⟩; refine ⟨_, rfl, ?_⟩; replace HS := HS.call HQ; clear HQ; (try clear F); (try simp only [hpn, hpm] at HS); have F := HS.boxes; simp only [bxn] at F) | ((with_reducible refine gate_dst (N := 24) rfl ?_); refine gate_guard (by rfl) ?_; refine ev_call rfl Tryz.func139 (by kernel_rfl) rfl #[.string a0.f2] rfl (by simp only [mpn]; rfl) ?_; refine (spec_NameOk.calls ht15.out).mono ?_; rintro _ wt15 ⟨rfl, HQ⟩; refine ⟨_, rfl, ?_⟩; replace HS := HS.call HQ; clear HQ; (try clear F); (try simp only [hpn, hpm] at HS); have F := HS.boxes; simp only [bxn] at F) | ((with_reducible refine gate_dst (N := 35) rfl ?_); refine gate_guard (by rfl) ?_; refine ev_call rfl Tryz.func74 (by kernel_rfl) rfl #[.int .i64 a0.f7, .int .i64 0, .int .i64 99] rfl (by simp only [mpn]; rfl) ?_; refine (spec_l01In.calls ht19.out).mono ?_; rintro _ wt19 ⟨rfl, HQ⟩; refine ⟨_, rfl, ?_⟩; replace HS := HS.call HQ; clear HQ; (try clear F); (try simp only [hpn, hpm] at HS); have F := HS.boxes; simp only [bxn] at F) | ((with_reducible refine gate_dst (N := 40) rfl ?_); refine gate_guard (by rfl) ?_; refine ev_call rfl Tryz.func74 (by kernel_rfl) rfl #[.int .i64 a0.f8, .int .i64 0, .int .i64 7] rfl (by simp only [mpn]; rfl) ?_; refine (spec_l01In.calls ht22.out).mono ?_; rintro _ wt22 ⟨rfl, HQ⟩; refine ⟨_, rfl, ?_⟩; replace HS := HS.call HQ; clear HQ; (try clear F); (try simp only [hpn, hpm] at HS); have F := HS.boxes; simp only [bxn] at F))
  go_ret
  exact ⟨rfl, HS.pick [] (by decide) (by rfl)⟩
 replace H := zpos c24 H
 subst c24
 replace H := zbind H; obtain ⟨t25, ht25, H⟩ := H
 by_cases c27 : t25 = true
 case neg =>
  replace H := zneg c27 H
  replace c27 := eq_false_of_ne_true c27
  subst c27
  obtain rfl := zsome H
  go_wp2_with (first | ((with_reducible refine gate_dst (N := 1) rfl ?_); refine ev_box rfl HS (by first | (go_simp; done) | (go_simp; rfl)) rfl ?_; clear HS; (try clear F); intro g1 w1 HS; (try simp only [hpn, hpm] at HS); have F := HS.boxes; simp only [bxn] at F) | ((with_reducible refine gate_dst (N := 5) rfl ?_); refine ev_call rfl Tryz.func75 (by kernel_rfl) rfl #[.int .i64 a0.f0] rfl (by simp only [mpn]; rfl) ?_; refine (spec_l09Num.calls ht3.out).mono ?_; rintro _ wt3 ⟨rfl, HQ⟩; refine ⟨_, rfl, ?_⟩; replace HS := HS.call HQ; clear HQ; (try clear F); (try simp only [hpn, hpm] at HS); have F := HS.boxes; simp only [bxn] at F) | ((with_reducible refine gate_dst (N := 9) rfl ?_); refine gate_guard (by rfl) ?_; refine ev_call rfl Tryz.func75 (by kernel_rfl) rfl #[.int .i64 a0.f3] rfl (by simp only [mpn]; rfl) ?_; refine (spec_l09Num.calls ht6.out).mono ?_; rintro _ wt6 ⟨rfl, HQ⟩; refine ⟨_, rfl, ?_⟩; replace HS := HS.call HQ; clear HQ; (try clear F); (try simp only [hpn, hpm] at HS); have F := HS.boxes; simp only [bxn] at F) | ((with_reducible refine gate_dst (N := 14) rfl ?_); refine gate_guard (by rfl) ?_; refine ev_call rfl Tryz.func75 (by kernel_rfl) rfl #[.int .i64 a0.f4] rfl (by simp only [mpn]; rfl) ?_; refine (spec_l09Num.calls ht9.out).mono ?_; rintro _ wt9 ⟨rfl, HQ⟩; refine ⟨_, rfl, ?_⟩; replace HS := HS.call HQ; clear HQ; (try clear F); (try simp only [hpn, hpm] at HS); have F := HS.boxes; simp only [bxn] at F) | ((with_reducible refine gate_dst (N := 19) rfl ?_); refine gate_guard (by rfl) ?_; refine ev_call rfl Tryz.func139 (by kernel_rfl) rfl #[.string a0.f1] rfl (by simp only [mpn]; rfl) ?_; refine (spec_NameOk.calls ht12.out).mono ?_; rintro _ wt12 ⟨rfl, HQ⟩; refine ⟨_, rfl, ?_⟩; replace HS := HS.call HQ; clear HQ; (try clear F); (try simp only [hpn, hpm] at HS); have F := HS.boxes; simp only [bxn] at F) | ((with_reducible refine gate_dst (N := 24) rfl ?_); refine gate_guard (by rfl) ?_; refine ev_call rfl Tryz.func139 (by kernel_rfl) rfl #[.string a0.f2] rfl (by simp only [mpn]; rfl) ?_; refine (spec_NameOk.calls ht15.out).mono ?_; rintro _ wt15 ⟨rfl, HQ⟩; refine ⟨_, rfl, ?_⟩; replace HS := HS.call HQ; clear HQ; (try clear F); (try simp only [hpn, hpm] at HS); have F := HS.boxes; simp only [bxn] at F) | ((with_reducible refine gate_dst (N := 35) rfl ?_); refine gate_guard (by rfl) ?_; refine ev_call rfl Tryz.func74 (by kernel_rfl) rfl #[.int .i64 a0.f7, .int .i64 0, .int .i64 99] rfl (by simp only [mpn]; rfl) ?_; refine (spec_l01In.calls ht19.out).mono ?_; rintro _ wt19 ⟨rfl, HQ⟩; refine ⟨_, rfl, ?_⟩; replace HS := HS.call HQ; clear HQ; (try clear F); (try simp only [hpn, hpm] at HS); have F := HS.boxes; simp only [bxn] at F) | ((with_reducible refine gate_dst (N := 40) rfl ?_); refine gate_guard (by rfl) ?_; refine ev_call rfl Tryz.func74 (by kernel_rfl) rfl #[.int .i64 a0.f8, .int .i64 0, .int .i64 7] rfl (by simp only [mpn]; rfl) ?_; refine (spec_l01In.calls ht22.out).mono ?_; rintro _ wt22 ⟨rfl, HQ⟩; refine ⟨_, rfl, ?_⟩; replace HS := HS.call HQ; clear HQ; (try clear F); (try simp only [hpn, hpm] at HS); have F := HS.boxes; simp only [bxn] at F) | ((with_reducible refine gate_dst (N := 45) rfl ?_); refine gate_guard (by rfl) ?_; refine ev_call rfl Tryz.func184 (by kernel_rfl) rfl #[.slice Ap0 a0.f9.length cp0] rfl (by simp only [mpn]; rfl) ?_; refine (spec_PoliciesOk.calls ht25.out (HS.ro gp0) lp0).mono ?_; rintro _ wt25 ⟨rfl, HQ⟩; refine ⟨_, rfl, ?_⟩; replace HS := HS.call HQ; clear HQ; (try clear F); (try simp only [hpn, hpm] at HS); have F := HS.boxes; simp only [bxn] at F))
  go_ret
  exact ⟨rfl, HS.pick [] (by decide) (by rfl)⟩
 replace H := zpos c27 H
 subst c27
 replace H := zbind H; obtain ⟨t28, ht28, H⟩ := H
 by_cases c30 : t28 = true
 case neg =>
  replace H := zneg c30 H
  replace c30 := eq_false_of_ne_true c30
  subst c30
  obtain rfl := zsome H
  go_wp2_with (first | ((with_reducible refine gate_dst (N := 1) rfl ?_); refine ev_box rfl HS (by first | (go_simp; done) | (go_simp; rfl)) rfl ?_; clear HS; (try clear F); intro g1 w1 HS; (try simp only [hpn, hpm] at HS); have F := HS.boxes; simp only [bxn] at F) | ((with_reducible refine gate_dst (N := 5) rfl ?_); refine ev_call rfl Tryz.func75 (by kernel_rfl) rfl #[.int .i64 a0.f0] rfl (by simp only [mpn]; rfl) ?_; refine (spec_l09Num.calls ht3.out).mono ?_; rintro _ wt3 ⟨rfl, HQ⟩; refine ⟨_, rfl, ?_⟩; replace HS := HS.call HQ; clear HQ; (try clear F); (try simp only [hpn, hpm] at HS); have F := HS.boxes; simp only [bxn] at F) | ((with_reducible refine gate_dst (N := 9) rfl ?_); refine gate_guard (by rfl) ?_; refine ev_call rfl Tryz.func75 (by kernel_rfl) rfl #[.int .i64 a0.f3] rfl (by simp only [mpn]; rfl) ?_; refine (spec_l09Num.calls ht6.out).mono ?_; rintro _ wt6 ⟨rfl, HQ⟩; refine ⟨_, rfl, ?_⟩; replace HS := HS.call HQ; clear HQ; (try clear F); (try simp only [hpn, hpm] at HS); have F := HS.boxes; simp only [bxn] at F) | ((with_reducible refine gate_dst (N := 14) rfl ?_); refine gate_guard (by rfl) ?_; refine ev_call rfl Tryz.func75 (by kernel_rfl) rfl #[.int .i64 a0.f4] rfl (by simp only [mpn]; rfl) ?_; refine (spec_l09Num.calls ht9.out).mono ?_; rintro _ wt9 ⟨rfl, HQ⟩; refine ⟨_, rfl, ?_⟩; replace HS := HS.call HQ; clear HQ; (try clear F); (try simp only [hpn, hpm] at HS); have F := HS.boxes; simp only [bxn] at F) | ((with_reducible refine gate_dst (N := 19) rfl ?_); refine gate_guard (by rfl) ?_; refine ev_call rfl Tryz.func139 (by kernel_rfl) rfl #[.string a0.f1] rfl (by simp only [mpn]; rfl) ?_; refine (spec_NameOk.calls ht12.out).mono ?_; rintro _ wt12 ⟨rfl, HQ⟩; refine ⟨_, rfl, ?_⟩; replace HS := HS.call HQ; clear HQ; (try clear F); (try simp only [hpn, hpm] at HS); have F := HS.boxes; simp only [bxn] at F) | ((with_reducible refine gate_dst (N := 24) rfl ?_); refine gate_guard (by rfl) ?_; refine ev_call rfl Tryz.func139 (by kernel_rfl) rfl #[.string a0.f2] rfl (by simp only [mpn]; rfl) ?_; refine (spec_NameOk.calls ht15.out).mono ?_; rintro _ wt15 ⟨rfl, HQ⟩; refine ⟨_, rfl, ?_⟩; replace HS := HS.call HQ; clear HQ; (try clear F); (try simp only [hpn, hpm] at HS); have F := HS.boxes; simp only [bxn] at F) | ((with_reducible refine gate_dst (N := 35) rfl ?_); refine gate_guard (by rfl) ?_; refine ev_call rfl Tryz.func74 (by kernel_rfl) rfl #[.int .i64 a0.f7, .int .i64 0, .int .i64 99] rfl (by simp only [mpn]; rfl) ?_; refine (spec_l01In.calls ht19.out).mono ?_; rintro _ wt19 ⟨rfl, HQ⟩; refine ⟨_, rfl, ?_⟩; replace HS := HS.call HQ; clear HQ; (try clear F); (try simp only [hpn, hpm] at HS); have F := HS.boxes; simp only [bxn] at F) | ((with_reducible refine gate_dst (N := 40) rfl ?_); refine gate_guard (by rfl) ?_; refine ev_call rfl Tryz.func74 (by kernel_rfl) rfl #[.int .i64 a0.f8, .int .i64 0, .int .i64 7] rfl (by simp only [mpn]; rfl) ?_; refine (spec_l01In.calls ht22.out).mono ?_; rintro _ wt22 ⟨rfl, HQ⟩; refine ⟨_, rfl, ?_⟩; replace HS := HS.call HQ; clear HQ; (try clear F); (try simp only [hpn, hpm] at HS); have F := HS.boxes; simp only [bxn] at F) | ((with_reducible refine gate_dst (N := 45) rfl ?_); refine gate_guard (by rfl) ?_; refine ev_call rfl Tryz.func184 (by kernel_rfl) rfl #[.slice Ap0 a0.f9.length cp0] rfl (by simp only [mpn]; rfl) ?_; refine (spec_PoliciesOk.calls ht25.out (HS.ro gp0) lp0).mono ?_; rintro _ wt25 ⟨rfl, HQ⟩; refine ⟨_, rfl, ?_⟩; replace HS := HS.call HQ; clear HQ; (try clear F); (try simp only [hpn, hpm] at HS); have F := HS.boxes; simp only [bxn] at F) | ((with_reducible refine gate_dst (N := 50) rfl ?_); refine gate_guard (by rfl) ?_; refine ev_call rfl Tryz.func185 (by kernel_rfl) rfl #[.slice Ap1 a0.f10.length cp1] rfl (by simp only [mpn]; rfl) ?_; refine (spec_NamesOk.calls ht28.out (HS.ro gp1) lp1).mono ?_; rintro _ wt28 ⟨rfl, HQ⟩; refine ⟨_, rfl, ?_⟩; replace HS := HS.call HQ; clear HQ; (try clear F); (try simp only [hpn, hpm] at HS); have F := HS.boxes; simp only [bxn] at F))
  go_ret
  exact ⟨rfl, HS.pick [] (by decide) (by rfl)⟩
 replace H := zpos c30 H
 subst c30
 replace H := zbind H; obtain ⟨t31, ht31, H⟩ := H
 by_cases c33 : t31 = true
 case pos =>
  replace H := zpos c33 H
  subst c33
  obtain rfl := zsome H
  go_wp2_with (first | ((with_reducible refine gate_dst (N := 1) rfl ?_); refine ev_box rfl HS (by first | (go_simp; done) | (go_simp; rfl)) rfl ?_; clear HS; (try clear F); intro g1 w1 HS; (try simp only [hpn, hpm] at HS); have F := HS.boxes; simp only [bxn] at F) | ((with_reducible refine gate_dst (N := 5) rfl ?_); refine ev_call rfl Tryz.func75 (by kernel_rfl) rfl #[.int .i64 a0.f0] rfl (by simp only [mpn]; rfl) ?_; refine (spec_l09Num.calls ht3.out).mono ?_; rintro _ wt3 ⟨rfl, HQ⟩; refine ⟨_, rfl, ?_⟩; replace HS := HS.call HQ; clear HQ; (try clear F); (try simp only [hpn, hpm] at HS); have F := HS.boxes; simp only [bxn] at F) | ((with_reducible refine gate_dst (N := 9) rfl ?_); refine gate_guard (by rfl) ?_; refine ev_call rfl Tryz.func75 (by kernel_rfl) rfl #[.int .i64 a0.f3] rfl (by simp only [mpn]; rfl) ?_; refine (spec_l09Num.calls ht6.out).mono ?_; rintro _ wt6 ⟨rfl, HQ⟩; refine ⟨_, rfl, ?_⟩; replace HS := HS.call HQ; clear HQ; (try clear F); (try simp only [hpn, hpm] at HS); have F := HS.boxes; simp only [bxn] at F) | ((with_reducible refine gate_dst (N := 14) rfl ?_); refine gate_guard (by rfl) ?_; refine ev_call rfl Tryz.func75 (by kernel_rfl) rfl #[.int .i64 a0.f4] rfl (by simp only [mpn]; rfl) ?_; refine (spec_l09Num.calls ht9.out).mono ?_; rintro _ wt9 ⟨rfl, HQ⟩; refine ⟨_, rfl, ?_⟩; replace HS := HS.call HQ; clear HQ; (try clear F); (try simp only [hpn, hpm] at HS); have F := HS.boxes; simp only [bxn] at F) | ((with_reducible refine gate_dst (N := 19) rfl ?_); refine gate_guard (by rfl) ?_; refine ev_call rfl Tryz.func139 (by kernel_rfl) rfl #[.string a0.f1] rfl (by simp only [mpn]; rfl) ?_; refine (spec_NameOk.calls ht12.out).mono ?_; rintro _ wt12 ⟨rfl, HQ⟩; refine ⟨_, rfl, ?_⟩; replace HS := HS.call HQ; clear HQ; (try clear F); (try simp only [hpn, hpm] at HS); have F := HS.boxes; simp only [bxn] at F) | ((with_reducible refine gate_dst (N := 24) rfl ?_); refine gate_guard (by rfl) ?_; refine ev_call rfl Tryz.func139 (by kernel_rfl) rfl #[.string a0.f2] rfl (by simp only [mpn]; rfl) ?_; refine (spec_NameOk.calls ht15.out).mono ?_; rintro _ wt15 ⟨rfl, HQ⟩; refine ⟨_, rfl, ?_⟩; replace HS := HS.call HQ; clear HQ; (try clear F); (try simp only [hpn, hpm] at HS); have F := HS.boxes; simp only [bxn] at F) | ((with_reducible refine gate_dst (N := 35) rfl ?_); refine gate_guard (by rfl) ?_; refine ev_call rfl Tryz.func74 (by kernel_rfl) rfl #[.int .i64 a0.f7, .int .i64 0, .int .i64 99] rfl (by simp only [mpn]; rfl) ?_; refine (spec_l01In.calls ht19.out).mono ?_; rintro _ wt19 ⟨rfl, HQ⟩; refine ⟨_, rfl, ?_⟩; replace HS := HS.call HQ; clear HQ; (try clear F); (try simp only [hpn, hpm] at HS); have F := HS.boxes; simp only [bxn] at F) | ((with_reducible refine gate_dst (N := 40) rfl ?_); refine gate_guard (by rfl) ?_; refine ev_call rfl Tryz.func74 (by kernel_rfl) rfl #[.int .i64 a0.f8, .int .i64 0, .int .i64 7] rfl (by simp only [mpn]; rfl) ?_; refine (spec_l01In.calls ht22.out).mono ?_; rintro _ wt22 ⟨rfl, HQ⟩; refine ⟨_, rfl, ?_⟩; replace HS := HS.call HQ; clear HQ; (try clear F); (try simp only [hpn, hpm] at HS); have F := HS.boxes; simp only [bxn] at F) | ((with_reducible refine gate_dst (N := 45) rfl ?_); refine gate_guard (by rfl) ?_; refine ev_call rfl Tryz.func184 (by kernel_rfl) rfl #[.slice Ap0 a0.f9.length cp0] rfl (by simp only [mpn]; rfl) ?_; refine (spec_PoliciesOk.calls ht25.out (HS.ro gp0) lp0).mono ?_; rintro _ wt25 ⟨rfl, HQ⟩; refine ⟨_, rfl, ?_⟩; replace HS := HS.call HQ; clear HQ; (try clear F); (try simp only [hpn, hpm] at HS); have F := HS.boxes; simp only [bxn] at F) | ((with_reducible refine gate_dst (N := 50) rfl ?_); refine gate_guard (by rfl) ?_; refine ev_call rfl Tryz.func185 (by kernel_rfl) rfl #[.slice Ap1 a0.f10.length cp1] rfl (by simp only [mpn]; rfl) ?_; refine (spec_NamesOk.calls ht28.out (HS.ro gp1) lp1).mono ?_; rintro _ wt28 ⟨rfl, HQ⟩; refine ⟨_, rfl, ?_⟩; replace HS := HS.call HQ; clear HQ; (try clear F); (try simp only [hpn, hpm] at HS); have F := HS.boxes; simp only [bxn] at F) | ((with_reducible refine gate_dst (N := 55) rfl ?_); refine gate_guard (by rfl) ?_; refine ev_call rfl Tryz.func185 (by kernel_rfl) rfl #[.slice Ap2 a0.f11.length cp2] rfl (by simp only [mpn]; rfl) ?_; refine (spec_NamesOk.calls ht31.out (HS.ro gp2) lp2).mono ?_; rintro _ wt31 ⟨rfl, HQ⟩; refine ⟨_, rfl, ?_⟩; replace HS := HS.call HQ; clear HQ; (try clear F); (try simp only [hpn, hpm] at HS); have F := HS.boxes; simp only [bxn] at F))
  go_ret
  exact ⟨rfl, HS.pick [] (by decide) (by rfl)⟩
 replace H := zneg c33 H
 replace c33 := eq_false_of_ne_true c33
 subst c33
 obtain rfl := zsome H
 go_wp2_with (first | ((with_reducible refine gate_dst (N := 1) rfl ?_); refine ev_box rfl HS (by first | (go_simp; done) | (go_simp; rfl)) rfl ?_; clear HS; (try clear F); intro g1 w1 HS; (try simp only [hpn, hpm] at HS); have F := HS.boxes; simp only [bxn] at F) | ((with_reducible refine gate_dst (N := 5) rfl ?_); refine ev_call rfl Tryz.func75 (by kernel_rfl) rfl #[.int .i64 a0.f0] rfl (by simp only [mpn]; rfl) ?_; refine (spec_l09Num.calls ht3.out).mono ?_; rintro _ wt3 ⟨rfl, HQ⟩; refine ⟨_, rfl, ?_⟩; replace HS := HS.call HQ; clear HQ; (try clear F); (try simp only [hpn, hpm] at HS); have F := HS.boxes; simp only [bxn] at F) | ((with_reducible refine gate_dst (N := 9) rfl ?_); refine gate_guard (by rfl) ?_; refine ev_call rfl Tryz.func75 (by kernel_rfl) rfl #[.int .i64 a0.f3] rfl (by simp only [mpn]; rfl) ?_; refine (spec_l09Num.calls ht6.out).mono ?_; rintro _ wt6 ⟨rfl, HQ⟩; refine ⟨_, rfl, ?_⟩; replace HS := HS.call HQ; clear HQ; (try clear F); (try simp only [hpn, hpm] at HS); have F := HS.boxes; simp only [bxn] at F) | ((with_reducible refine gate_dst (N := 14) rfl ?_); refine gate_guard (by rfl) ?_; refine ev_call rfl Tryz.func75 (by kernel_rfl) rfl #[.int .i64 a0.f4] rfl (by simp only [mpn]; rfl) ?_; refine (spec_l09Num.calls ht9.out).mono ?_; rintro _ wt9 ⟨rfl, HQ⟩; refine ⟨_, rfl, ?_⟩; replace HS := HS.call HQ; clear HQ; (try clear F); (try simp only [hpn, hpm] at HS); have F := HS.boxes; simp only [bxn] at F) | ((with_reducible refine gate_dst (N := 19) rfl ?_); refine gate_guard (by rfl) ?_; refine ev_call rfl Tryz.func139 (by kernel_rfl) rfl #[.string a0.f1] rfl (by simp only [mpn]; rfl) ?_; refine (spec_NameOk.calls ht12.out).mono ?_; rintro _ wt12 ⟨rfl, HQ⟩; refine ⟨_, rfl, ?_⟩; replace HS := HS.call HQ; clear HQ; (try clear F); (try simp only [hpn, hpm] at HS); have F := HS.boxes; simp only [bxn] at F) | ((with_reducible refine gate_dst (N := 24) rfl ?_); refine gate_guard (by rfl) ?_; refine ev_call rfl Tryz.func139 (by kernel_rfl) rfl #[.string a0.f2] rfl (by simp only [mpn]; rfl) ?_; refine (spec_NameOk.calls ht15.out).mono ?_; rintro _ wt15 ⟨rfl, HQ⟩; refine ⟨_, rfl, ?_⟩; replace HS := HS.call HQ; clear HQ; (try clear F); (try simp only [hpn, hpm] at HS); have F := HS.boxes; simp only [bxn] at F) | ((with_reducible refine gate_dst (N := 35) rfl ?_); refine gate_guard (by rfl) ?_; refine ev_call rfl Tryz.func74 (by kernel_rfl) rfl #[.int .i64 a0.f7, .int .i64 0, .int .i64 99] rfl (by simp only [mpn]; rfl) ?_; refine (spec_l01In.calls ht19.out).mono ?_; rintro _ wt19 ⟨rfl, HQ⟩; refine ⟨_, rfl, ?_⟩; replace HS := HS.call HQ; clear HQ; (try clear F); (try simp only [hpn, hpm] at HS); have F := HS.boxes; simp only [bxn] at F) | ((with_reducible refine gate_dst (N := 40) rfl ?_); refine gate_guard (by rfl) ?_; refine ev_call rfl Tryz.func74 (by kernel_rfl) rfl #[.int .i64 a0.f8, .int .i64 0, .int .i64 7] rfl (by simp only [mpn]; rfl) ?_; refine (spec_l01In.calls ht22.out).mono ?_; rintro _ wt22 ⟨rfl, HQ⟩; refine ⟨_, rfl, ?_⟩; replace HS := HS.call HQ; clear HQ; (try clear F); (try simp only [hpn, hpm] at HS); have F := HS.boxes; simp only [bxn] at F) | ((with_reducible refine gate_dst (N := 45) rfl ?_); refine gate_guard (by rfl) ?_; refine ev_call rfl Tryz.func184 (by kernel_rfl) rfl #[.slice Ap0 a0.f9.length cp0] rfl (by simp only [mpn]; rfl) ?_; refine (spec_PoliciesOk.calls ht25.out (HS.ro gp0) lp0).mono ?_; rintro _ wt25 ⟨rfl, HQ⟩; refine ⟨_, rfl, ?_⟩; replace HS := HS.call HQ; clear HQ; (try clear F); (try simp only [hpn, hpm] at HS); have F := HS.boxes; simp only [bxn] at F) | ((with_reducible refine gate_dst (N := 50) rfl ?_); refine gate_guard (by rfl) ?_; refine ev_call rfl Tryz.func185 (by kernel_rfl) rfl #[.slice Ap1 a0.f10.length cp1] rfl (by simp only [mpn]; rfl) ?_; refine (spec_NamesOk.calls ht28.out (HS.ro gp1) lp1).mono ?_; rintro _ wt28 ⟨rfl, HQ⟩; refine ⟨_, rfl, ?_⟩; replace HS := HS.call HQ; clear HQ; (try clear F); (try simp only [hpn, hpm] at HS); have F := HS.boxes; simp only [bxn] at F) | ((with_reducible refine gate_dst (N := 55) rfl ?_); refine gate_guard (by rfl) ?_; refine ev_call rfl Tryz.func185 (by kernel_rfl) rfl #[.slice Ap2 a0.f11.length cp2] rfl (by simp only [mpn]; rfl) ?_; refine (spec_NamesOk.calls ht31.out (HS.ro gp2) lp2).mono ?_; rintro _ wt31 ⟨rfl, HQ⟩; refine ⟨_, rfl, ?_⟩; replace HS := HS.call HQ; clear HQ; (try clear F); (try simp only [hpn, hpm] at HS); have F := HS.boxes; simp only [bxn] at F))
 go_ret
 exact ⟨rfl, HS.pick [] (by decide) (by rfl)⟩
/-! ### spec_l07Plain: function 234 -/
def spec_l07Plain.l0 : Nat → Int → S182 → Option (Bool)
  | 0, _, _ => none
  | k + 1, x24, a0 => (if x24 < (a0.f1.size : Int) then (if 0 ≤ x24 then (if x24 < (a0.f1.size : Int) then (if (bt a0.f1 x24) < 32 then (some false) else (if 126 < (bt a0.f1 x24) then (some false) else (spec_l07Plain.l0 k (wrap64 (x24 + 1)) a0))) else none) else none) else (some true))
def spec_l07Plain.f (k : Nat) (a0 : S182) : Option (Bool) := (if a0.f0 = 1 then (if a0.f1.toList = ([0] : List UInt8) then (some true) else (some (a0.f1.toList == ([255] : List UInt8)))) else (if a0.f0 = 2 then ((spec_l01In.f (a0.f1.size : Int) 1 5).bind fun t6 => (if t6 = true then (if 0 < (a0.f1.size : Int) then (if 128 ≤ (bt a0.f1 0) then (some false) else (if (bt a0.f1 0) = 0 then (if (a0.f1.size : Int) = 1 then (some true) else (if 1 < (a0.f1.size : Int) then (some (decide (128 ≤ (bt a0.f1 1)))) else none)) else (some true))) else none) else (some false))) else (if a0.f0 = 12 then (spec_l07Plain.l0 k 0 a0) else (some (a0.f0 == 4)))))
set_option maxHeartbeats 16000000 in
theorem spec_l07Plain.calls {k : Nat} {a0 : S182} {Ap0 : Option Addr} {np0 cp0 : Nat} {r : Bool} {w : World} (h : spec_l07Plain.f k a0 = some r) (gp0 : k182.C w Ap0 np0 a0.f2) (lp0 : np0 ≤ cp0) :
    Calls Tryz.prog 234 #[.agg #[.int .i64 a0.f0, .string a0.f1, .slice Ap0 np0 cp0]] w (fun e w' => e = .returned (.bool r) ∧ Hp noFP w w' []) := by
 obtain rfl := C_len gp0
 have HS := Hp.start w
 have H := Aside0.mk h
 clear h
 unfold spec_l07Plain.f at H
 go_enter Tryz.func234, Tryz.ntmps234
 go_upto_if 6 with (first | ((with_reducible refine gate_dst (N := 1) rfl ?_); refine ev_box rfl HS (by first | (go_simp; done) | (go_simp; rfl)) rfl ?_; clear HS; (try clear F); intro g1 w1 HS; (try simp only [hpn, hpm] at HS); have F := HS.boxes; simp only [bxn] at F))
 by_cases c3 : a0.f0 = 1
 case pos =>
  replace H := zpos c3 H
  have c3a := beq_iff_eq.mpr c3
  have c3b := bne_eq_false_iff_eq.mpr c3
  clear c3
  (try simp only [c3a, c3b, dcn])
  by_cases c4 : a0.f1.toList = ([0] : List UInt8)
  case neg =>
   replace H := zneg c4 H
   have c4a := beq_eq_false_iff_ne.mpr c4
   have c4b := bne_iff_ne.mpr c4
   clear c4
   obtain rfl := zsome H
   go_wp2
   go_ret
   exact ⟨rfl, HS.pick [] (by decide) (by rfl)⟩
  replace H := zpos c4 H
  have c4a := beq_iff_eq.mpr c4
  have c4b := bne_eq_false_iff_eq.mpr c4
  clear c4
  obtain rfl := zsome H
  go_wp2
  go_ret
  exact ⟨rfl, HS.pick [] (by decide) (by rfl)⟩
 replace H := zneg c3 H
 have c3a := beq_eq_false_iff_ne.mpr c3
 have c3b := bne_iff_ne.mpr c3
 clear c3
 (try simp only [c3a, c3b, dcn])
 by_cases c5 : a0.f0 = 2
 case neg =>
  replace H := zneg c5 H
  have c5a := beq_eq_false_iff_ne.mpr c5
  have c5b := bne_iff_ne.mpr c5
  clear c5
  by_cases c20 : a0.f0 = 12
  case neg =>
   replace H := zneg c20 H
   have c20a := beq_eq_false_iff_ne.mpr c20
   have c20b := bne_iff_ne.mpr c20
   clear c20
   obtain rfl := zsome H
   go_wp2
   go_ret
   exact ⟨rfl, HS.pick [] (by decide) (by rfl)⟩
  replace H := zpos c20 H
  have c20a := beq_iff_eq.mpr c20
  have c20b := bne_eq_false_iff_eq.mpr c20
  clear c20
  go_wp2
  go_loopg [3] k (fun kq v_3 w' => ∃ (x24 : Int), v_3 = .int .i64 x24 ∧ Aside0 (spec_l07Plain.l0 kq x24 a0 = some r) ∧ Aside0 (kq ≤ k) ∧ Hp noFP w w' [.box g1 [.int .i64 a0.f0, .string a0.f1, .slice Ap0 a0.f2.length cp0] 182])
  case atStart => exact ⟨_, rfl, H, ⟨Nat.le_refl _⟩, HS⟩
  case round =>
   clear HS H; (try clear F)
   obtain ⟨x24, rfl, H, HKk23, HS⟩ := hrel
   have F := HS.boxes; simp only [bxn] at F
   cases gk with
   | zero => exact absurd H.out (by simp [spec_l07Plain.l0])
   | succ k23 =>
    simp only [spec_l07Plain.l0] at H
    by_cases c26 : x24 < (a0.f1.size : Int)
    case neg =>
     replace H := zneg c26 H
     replace c26 := eq_false c26
     obtain rfl := zsome H
     go_wp2
     go_ret
     exact ⟨rfl, HS.pick [] (by decide) (by rfl)⟩
    replace H := zpos c26 H
    replace c26 := eq_true c26
    by_cases c27 : 0 ≤ x24
    case neg => exact zno c27 H
    replace H := zpos c27 H
    replace c27 := eq_true c27
    by_cases c28 : x24 < (a0.f1.size : Int)
    case neg => exact zno c28 H
    replace H := zpos c28 H
    replace c28 := eq_true c28
    have hx29 := bt_at a0.f1 x24
    by_cases c30 : (bt a0.f1 x24) < 32
    case pos =>
     replace H := zpos c30 H
     replace c30 := eq_true c30
     obtain rfl := zsome H
     go_wp2
     go_ret
     exact ⟨rfl, HS.pick [] (by decide) (by rfl)⟩
    replace H := zneg c30 H
    replace c30 := eq_false c30
    have hx31 := bt_at a0.f1 x24
    by_cases c32 : 126 < (bt a0.f1 x24)
    case pos =>
     replace H := zpos c32 H
     replace c32 := eq_true c32
     obtain rfl := zsome H
     go_wp2
     go_ret
     exact ⟨rfl, HS.pick [] (by decide) (by rfl)⟩
    replace H := zneg c32 H
    replace c32 := eq_false c32
    go_wp2
    go_roundg k23
    case measure => have := HKk23.out; omega
    case rel => exact ⟨_, rfl, H, ⟨by have := HKk23.out; omega⟩, HS.pick [0] (by decide) (by rfl)⟩
 replace H := zpos c5 H
 have c5a := beq_iff_eq.mpr c5
 have c5b := bne_eq_false_iff_eq.mpr c5
 clear c5
 replace H := zbind H; obtain ⟨t6, ht6, H⟩ := H
 by_cases c8 : t6 = true
 case neg =>
  replace H := zneg c8 H
  replace c8 := eq_false_of_ne_true c8
  subst c8
  obtain rfl := zsome H
  go_wp2_with (first | ((with_reducible refine gate_dst (N := 21) rfl ?_); refine ev_call rfl Tryz.func74 (by kernel_rfl) rfl #[.int .i64 (a0.f1.size : Int), .int .i64 1, .int .i64 5] rfl (by simp only [mpn]; rfl) ?_; refine (spec_l01In.calls ht6.out).mono ?_; rintro _ wt6 ⟨rfl, HQ⟩; refine ⟨_, rfl, ?_⟩; replace HS := HS.call HQ; clear HQ; (try clear F); (try simp only [hpn, hpm] at HS); have F := HS.boxes; simp only [bxn] at F))
  go_ret
  exact ⟨rfl, HS.pick [] (by decide) (by rfl)⟩
 replace H := zpos c8 H
 subst c8
 by_cases c9 : 0 < (a0.f1.size : Int)
 case neg => exact zno c9 H
 replace H := zpos c9 H
 replace c9 := eq_true c9
 have c9n : (0 < a0.f1.size) = True := eq_true (by have := of_eq_true c9; omega)
 go_upto_if 28 with (first | ((with_reducible refine gate_dst (N := 21) rfl ?_); refine ev_call rfl Tryz.func74 (by kernel_rfl) rfl #[.int .i64 (a0.f1.size : Int), .int .i64 1, .int .i64 5] rfl (by simp only [mpn]; rfl) ?_; refine (spec_l01In.calls ht6.out).mono ?_; rintro _ wt6 ⟨rfl, HQ⟩; refine ⟨_, rfl, ?_⟩; replace HS := HS.call HQ; clear HQ; (try clear F); (try simp only [hpn, hpm] at HS); have F := HS.boxes; simp only [bxn] at F; have hx10 : ∀ h : 0 < a0.f1.size, ((a0.f1[0]'h).toNat : Int) = bt a0.f1 0 := bt_at a0.f1 0; have hz11 : 0 < a0.f1.size := (by have := of_eq_true c9; omega)))
 by_cases c12 : 128 ≤ (bt a0.f1 0)
 case pos =>
  replace H := zpos c12 H
  replace c12 := eq_true c12
  (try simp only [c12, dcn])
  obtain rfl := zsome H
  go_wp2
  go_ret
  exact ⟨rfl, HS.pick [] (by decide) (by rfl)⟩
 replace H := zneg c12 H
 replace c12 := eq_false c12
 (try simp only [c12, dcn])
 have hx13 : ∀ h : 0 < a0.f1.size, ((a0.f1[0]'h).toNat : Int) = bt a0.f1 0 := bt_at a0.f1 0
 have hz14 : 0 < a0.f1.size := (by have := of_eq_true c9; omega)
 by_cases c15 : (bt a0.f1 0) = 0
 case neg =>
  replace H := zneg c15 H
  have c15a := beq_eq_false_iff_ne.mpr c15
  have c15b := bne_iff_ne.mpr c15
  clear c15
  obtain rfl := zsome H
  go_wp2
  go_ret
  exact ⟨rfl, HS.pick [] (by decide) (by rfl)⟩
 replace H := zpos c15 H
 have c15a := beq_iff_eq.mpr c15
 have c15b := bne_eq_false_iff_eq.mpr c15
 clear c15
 by_cases c16 : (a0.f1.size : Int) = 1
 case pos =>
  replace H := zpos c16 H
  have c16a := beq_iff_eq.mpr c16
  have c16b := bne_eq_false_iff_eq.mpr c16
  clear c16
  obtain rfl := zsome H
  go_wp2
  go_ret
  exact ⟨rfl, HS.pick [] (by decide) (by rfl)⟩
 replace H := zneg c16 H
 have c16a := beq_eq_false_iff_ne.mpr c16
 have c16b := bne_iff_ne.mpr c16
 clear c16
 by_cases c17 : 1 < (a0.f1.size : Int)
 case neg => exact zno c17 H
 replace H := zpos c17 H
 replace c17 := eq_true c17
 have c17n : (1 < a0.f1.size) = True := eq_true (by have := of_eq_true c17; omega)
 have hx18 : ∀ h : 1 < a0.f1.size, ((a0.f1[1]'h).toNat : Int) = bt a0.f1 1 := bt_at a0.f1 1
 have hz19 : 1 < a0.f1.size := (by have := of_eq_true c17; omega)
 obtain rfl := zsome H
 go_wp2
 go_ret
 exact ⟨rfl, HS.pick [] (by decide) (by rfl)⟩
end Go.Proofs.YtacocpknielofaaGreatDoor.F
