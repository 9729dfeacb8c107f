/- Functions of the program and of the law, and that their calls do what is written here. -/
import Derived.Test.YtoaoncnbimcdgaaDoorZgFnExactReadCerti
import Derived.Test.YtoaoncnbimcdgaaDoorZgFnExactReadCertj
import Derived.Test.YtoaoncnbimcdgaaDoorZgFnExactReadCertk
import Derived.Test.YtoaoncnbimcdgaaDoorZgFnExactReadCertl
namespace Go.Proofs.YtoaoncnbimcdgaaDoor.F
open Go.RowKit Go.Proofs.YtoaoncnbimcdgaaDoorW.PrintWords Go.Proofs.YtoaoncnbimcdgaaDoorW.PrintLast Go.Proofs.YtoaoncnbimcdgaaDoorW.PrintMore Go.Proofs.YtoaoncnbimcdgaaDoor.Z
attribute [local go_sem] max2_int min2_int max_two min_two max_three min_three max_four min_four
set_option linter.unusedVariables false
set_option linter.unusedSimpArgs false
set_option maxRecDepth 100000
/-! ### impl_CertText: function 11 -/
def impl_CertText.f (k : Nat) (a0 : S29) : Option (ByteArray × Bool) := ((impl_CertOk.f k a0).bind fun t3 => (if t3 = true then ((impl_BodyItem.f k a0).bind fun t101001 => ((impl_bytesItem.f a0.f12).bind fun t104001 => ((impl_ListItem.f k ([t101001, t104001] : List S65)).bind fun t106001 => ((impl_ItemText.f k t106001).bind fun t107001 => (some (t107001.1, t107001.2)))))) else (some ((⟨#[]⟩ : ByteArray), false))))
def impl_CertText.T3 : Bool × List (List Nat × List Nat) := (true, [([], []), ([0], [0]), ([], []), ([2], [2]), ([3, 1], [3]), ([1, 4], [1, 4]), ([5, 4], [5]), ([6, 6], [6]), ([7], [7]), ([7], [7]), ([8, 7, 0, 1, 2, 3, 4, 5, 6, 7, 8, 9], [8]), ([9, 10, 0, 1, 2, 3, 4, 5, 6, 7, 8, 9, 10], [9])])
theorem impl_CertText.tT3 : rtab .any (opsOf Tryd.f11 3) = impl_CertText.T3 := by kernel_rfl
set_option maxHeartbeats 16000000 in
theorem impl_CertText.calls {k : Nat} {a0 : S29} {Ap0 : Option Addr} {np0 cp0 : Nat} {Ap1 : Option Addr} {np1 cp1 : Nat} {Ap2 : Option Addr} {np2 cp2 : Nat} {mG : Int} {r1 : ByteArray} {r2 : Bool} {w : World} (h : impl_CertText.f k a0 = some (r1, r2)) (gp0 : (Kd.int .i64).C w Ap0 np0 a0.f9) (lp0 : np0 ≤ cp0) (gp1 : Kd.string.C w Ap1 np1 a0.f10) (lp1 : np1 ≤ cp1) (gp2 : Kd.string.C w Ap2 np2 a0.f11) (lp2 : np2 ≤ cp2) (hgM : w.cell? ⟨0, 0, none⟩ = some (.int .i64 mG)) :
    Calls Tryd.prog 11 #[.agg #[.int .i64 a0.f0, .string a0.f1, .string a0.f2, .int .i64 a0.f3, .int .i64 a0.f4, .string a0.f5, .bool a0.f6, .int .i64 a0.f7, .int .i64 a0.f8, .slice Ap0 np0 cp0, .slice Ap1 np1 cp1, .slice Ap2 np2 cp2, .string a0.f12]] w (fun e w' => e = .returned (.tuple #[.string r1, .bool r2]) ∧ Hp noFP w w' []) := by
 obtain rfl := C_len gp0
 obtain rfl := C_len gp1
 obtain rfl := C_len gp2
 have HS := Hp.start w
 have H := Aside0.mk h
 clear h
 unfold impl_CertText.f at H
 go_enter Tryd.func11, Tryd.ntmps11
 replace H := zbind H; obtain ⟨t3, ht3, H⟩ := H
 go_upto_if 6 with (first | ((with_reducible refine gate_dst (N := 1) rfl ?_); refine ev_box rfl HS (by first | (go_simp; done) | (go_simp; rfl)) rfl ?_; clear HS; (try clear F); intro g1 w1 HS; (try simp only [hpn, hpm] at HS); have F := HS.boxes; simp only [bxn] at F) | ((with_reducible refine gate_dst (N := 5) rfl ?_); refine ev_call rfl Tryd.func40 (by kernel_rfl) rfl #[.agg #[.int .i64 a0.f0, .string a0.f1, .string a0.f2, .int .i64 a0.f3, .int .i64 a0.f4, .string a0.f5, .bool a0.f6, .int .i64 a0.f7, .int .i64 a0.f8, .slice Ap0 a0.f9.length cp0, .slice Ap1 a0.f10.length cp1, .slice Ap2 a0.f11.length cp2, .string a0.f12]] rfl (by simp only [mpn]; rfl) ?_; refine (impl_CertOk.calls ht3.out (HS.ro gp0) lp0 (HS.ro gp1) lp1 (HS.ro gp2) lp2 (HS.keepc hgM)).mono ?_; rintro _ wt3 ⟨rfl, HQ⟩; refine ⟨_, rfl, ?_⟩; replace HS := HS.call HQ; clear HQ; (try clear F); (try simp only [hpn, hpm] at HS); have F := HS.boxes; simp only [bxn] at F))
 by_cases c5 : t3 = true
 case neg =>
  replace H := zneg c5 H
  replace c5 := eq_false_of_ne_true c5
  subst c5
  (try simp only [dcn, if_true, Bool.false_eq_true, if_false])
  obtain ⟨rfl, rfl⟩ := zsome2 H
  go_wp2
  exact bodyPost_ret (results_list (rs := [.tmp 2, .tmp 3]) rfl (by simp) (.tmp (.tmp .nil))) rfl ⟨rfl, HS.pick [] (by decide) (by rfl)⟩
 replace H := zpos c5 H
 subst c5
 (try simp only [dcn, if_true, Bool.false_eq_true, if_false])
 (try go_wp2)
 replace H := zbind H; obtain ⟨t101001, ht101001, H⟩ := H
 replace H := zbind H; obtain ⟨t104001, ht104001, H⟩ := H
 replace H := zbind H; obtain ⟨t106001, ht106001, H⟩ := H
 replace H := zbind H; obtain ⟨t107001, ht107001, H⟩ := H
 refine dr_start [] HS #[false, false, false, false, false, false, false, false, false, false, false, false] (by kernel_rfl) rfl rfl impl_CertText.tT3 (fun w7 HT HS HH => ?_)
 (try clear F)
 refine drq_of [(0, some 7), (2, some 9), (3, some 10)] ?_
 repeat (first | (refine drq_pure HT (v := ?_) (a' := ?_) rfl rfl (by kernel_rfl) (fun _ _ _ h => h) (.inl ⟨by rfl, ?_⟩) ?_ ?_; rotate_left; (intro w'; go_simp; with_reducible rfl); rotate_left; (simp only [Act.put, ptn]; rfl)) | (refine drq_take HT HH (v := ?_) (a' := ?_) rfl rfl (by kernel_rfl) (fun _ _ _ h => h) (.inl ⟨by rfl, ?_⟩) ?_ ?_; rotate_left; (rintro w' ⟨rs', HS'⟩; have F := HS'.boxes; simp only [bxn, List.cons_append, List.nil_append] at F; go_simp; with_reducible rfl); rotate_left; (simp only [Act.put, ptn]; rfl)))
 refine drq_end ?_
 refine dr_one 1 HT rfl (by kernel_rfl) (by decide) (fun K hK => ?_)
 refine goes_ Tryd.func43 (by kernel_rfl) rfl #[.agg #[.int .i64 a0.f0, .string a0.f1, .string a0.f2, .int .i64 a0.f3, .int .i64 a0.f4, .string a0.f5, .bool a0.f6, .int .i64 a0.f7, .int .i64 a0.f8, .slice Ap0 a0.f9.length cp0, .slice Ap1 a0.f10.length cp1, .slice Ap2 a0.f11.length cp2, .string a0.f12]] (by rfl) rfl rfl (by simp only [mpn]; rfl) ?_; refine (impl_BodyItem.calls ht101001.out (HS.ro gp0) lp0 (HS.ro gp1) lp1 (HS.ro gp2) lp2).mono ?_; rintro _ wt101001 ⟨v101002, rfl, HQ⟩; refine ⟨_, rfl, ?_⟩; replace HS := HS.call HQ; clear HQ; (try clear F); obtain ⟨B101002, d101002, rfl, m101002⟩ := HS.form 1 rfl
 (try simp only [hpn, hpm] at HS)
 have F := HS.boxes; simp only [bxn] at F
 refine hK.out _ _ ⟨_, HS⟩ (fun HH => ?_)
 clear hK K
 refine norm_ (a' := ?_) ?_ ?_
 rotate_left
 · show Act.put _ (some 8) _ = _; simp only [Act.put, ptn]; rfl
 refine dr_one 4 HT rfl (by kernel_rfl) (by decide) (fun K hK => ?_)
 refine goes_ Tryd.func44 (by kernel_rfl) rfl #[.string a0.f12] (by rfl) rfl rfl (by simp only [mpn]; rfl) ?_; refine (impl_bytesItem.calls ht104001.out).mono ?_; rintro _ wt104001 ⟨v104002, rfl, HQ⟩; refine ⟨_, rfl, ?_⟩; replace HS := HS.call HQ; clear HQ; (try clear F); obtain ⟨B104002, d104002, rfl, m104002⟩ := HS.form 2 rfl
 (try simp only [hpn, hpm] at HS)
 have F := HS.boxes; simp only [bxn] at F
 refine hK.out _ _ ⟨_, HS⟩ (fun HH => ?_)
 clear hK K
 refine norm_ (a' := ?_) ?_ ?_
 rotate_left
 · show Act.put _ (some 11) _ = _; simp only [Act.put, ptn]; rfl
 refine dr_one 5 HT rfl (by kernel_rfl) (by decide) (fun K hK => ?_)
 refine if_wp (by rfl) ?_; refine wp_lit q65 [1, 2] ([t101001, t104001] : List S65) ([.int .i64 t101001.f0, .string t101001.f1, .slice B101002 t101001.f2.length d101002] ++ ([.int .i64 t104001.f0, .string t104001.f1, .slice B104002 t104001.f2.length d104002] ++ [])) HS (by first | (go_simp; done) | (go_simp; rfl)) rfl rfl (Nat.le_of_ble_eq_true rfl) (MadeL.cons (js1 := [1]) (c := [.int .i64 t101001.f0, .string t101001.f1, .slice B101002 t101001.f2.length d101002]) rfl (fun S hd hh => q65_pack (x := t101001) hd (hh 1 (.own (Zd.slice 65 q65) t101001.f2 [.slice B101002 t101001.f2.length d101002]) rfl) (by decide)) (MadeL.cons (js1 := [2]) (c := [.int .i64 t104001.f0, .string t104001.f1, .slice B104002 t104001.f2.length d104002]) rfl (fun S hd hh => q65_pack (x := t104001) hd (hh 2 (.own (Zd.slice 65 q65) t104001.f2 [.slice B104002 t104001.f2.length d104002]) rfl) (by decide)) MadeL.nil (by decide)) (by decide)) ?_; clear HS; (try clear F); intro v105001 w105001 HS; obtain ⟨B105001, d105001, rfl, m105001⟩ := HS.formn 2 3 rfl rfl
 (try simp only [hpn, hpm] at HS)
 have F := HS.boxes; simp only [bxn] at F
 refine hK.out _ _ ⟨_, HS⟩ (fun HH => ?_)
 clear hK K
 refine norm_ (a' := ?_) ?_ ?_
 rotate_left
 · show Act.put _ (some 12) _ = _; simp only [Act.put, ptn]; rfl
 refine dr_one 6 HT rfl (by kernel_rfl) (by decide) (fun K hK => ?_)
 refine goes_ Tryd.func42 (by kernel_rfl) rfl #[.slice B105001 2 d105001] (by rfl) rfl rfl (by simp only [mpn]; rfl) ?_; refine (impl_ListItem.calls ht106001.out (HS.rd 3 rfl) m105001).mono ?_; rintro _ wt106001 ⟨v106002, rfl, HQ⟩; refine ⟨_, rfl, ?_⟩; replace HS := HS.call HQ; clear HQ; (try clear F); obtain ⟨B106002, d106002, rfl, m106002⟩ := HS.form 4 rfl
 (try simp only [hpn, hpm] at HS)
 have F := HS.boxes; simp only [bxn] at F
 refine hK.out _ _ ⟨_, HS⟩ (fun HH => ?_)
 clear hK K
 refine norm_ (a' := ?_) ?_ ?_
 rotate_left
 · show Act.put _ (some 13) _ = _; simp only [Act.put, ptn]; rfl
 refine dr_one 7 HT rfl (by kernel_rfl) (by decide) (fun K hK => ?_)
 refine goes_ Tryd.func41 (by kernel_rfl) rfl #[.agg #[.int .i64 t106001.f0, .string t106001.f1, .slice B106002 t106001.f2.length d106002]] (by rfl) rfl rfl (by simp only [mpn]; rfl) ?_; refine (impl_ItemText.calls ht107001.out (HS.rd 4 rfl) m106002).mono ?_; rintro _ wt107001 ⟨rfl, HQ⟩; refine ⟨_, rfl, ?_⟩; replace HS := HS.call HQ; clear HQ; (try clear F)
 (try simp only [hpn, hpm] at HS)
 have F := HS.boxes; simp only [bxn] at F
 refine hK.out _ _ ⟨_, HS⟩ (fun HH => ?_)
 clear hK K
 refine norm_ (a' := ?_) ?_ ?_
 rotate_left
 · show Act.put _ (some 14) _ = _; simp only [Act.put, ptn]; rfl
 refine drq_of [(8, some 15), (9, some 16), (10, some 2), (11, some 3)] ?_
 repeat (first | (refine drq_pure HT (v := ?_) (a' := ?_) rfl rfl (by kernel_rfl) (fun _ _ _ h => h) (.inl ⟨by rfl, ?_⟩) ?_ ?_; rotate_left; (intro w'; go_simp; with_reducible rfl); rotate_left; (simp only [Act.put, ptn]; rfl)))
 refine drq_end ?_
 refine done_ (done_of HT.out (by kernel_rfl)) ?_
 (try clear F)
 have F := HS.boxes; simp only [bxn] at F
 obtain ⟨rfl, rfl⟩ := zsome2 H
 go_wp2
 exact bodyPost_ret (results_list (rs := [.tmp 2, .tmp 3]) rfl (by simp) (.tmp (.tmp .nil))) rfl ⟨rfl, HS.pick [] (by decide) (by rfl)⟩
/-! ### impl_readLength: function 109 -/
def impl_readLength.l0 : Nat → Int → Int → ByteArray → ByteArray → Option (Int × ByteArray × Bool)
  | 0, _, _, _, _ => none
  | k + 1, x28, x29, a0, y15 => (if x29 < (y15.size : Int) then (if 0 ≤ x29 then (if x29 < (y15.size : Int) then (impl_readLength.l0 k (Go.bits .or .i64 (wrap64 (x28 * 256)) (wrap64 (rd (bytesOf y15) x29))) (wrap64 (x29 + 1)) a0 y15) else none) else none) else (if 0 ≤ (wrap64 (1 + (wrap64 ((wrap64 (bt a0 0)) - 128)))) then (some (x28, (a0.extract ((wrap64 (1 + (wrap64 ((wrap64 (bt a0 0)) - 128))))).toNat a0.size), true)) else none))
def impl_readLength.f (k : Nat) (a0 : ByteArray) : Option (Int × ByteArray × Bool) := (if a0.toList = ([] : List UInt8) then (some (0, (⟨#[]⟩ : ByteArray), false)) else (if 0 < (a0.size : Int) then (if (bt a0 0) < 128 then (if 1 ≤ (a0.size : Int) then (some ((wrap64 (bt a0 0)), (a0.extract 1 a0.size), true)) else none) else (if 4 < (wrap64 ((wrap64 (bt a0 0)) - 128)) then (some (0, (⟨#[]⟩ : ByteArray), false)) else (if (a0.size : Int) < (wrap64 (1 + (wrap64 ((wrap64 (bt a0 0)) - 128)))) then (some (0, (⟨#[]⟩ : ByteArray), false)) else (if 1 ≤ (wrap64 (1 + (wrap64 ((wrap64 (bt a0 0)) - 128)))) then (if (wrap64 (1 + (wrap64 ((wrap64 (bt a0 0)) - 128)))) ≤ (a0.size : Int) then (lets (a0.extract 1 ((wrap64 (1 + (wrap64 ((wrap64 (bt a0 0)) - 128))))).toNat) fun y15 => (if y15.size ≤ 9223372036854775807 then (impl_readLength.l0 k 0 0 a0 y15) else none)) else none) else none)))) else none))
def impl_readLength.T4 : Bool × List (List Nat × List Nat) := (true, [([], []), ([0], [0]), ([1], [1]), ([], []), ([3], [3]), ([2, 0, 1, 2], [2]), ([4, 5, 0, 1, 2, 3, 4, 5], [4]), ([6, 0, 1, 2, 3, 4, 5, 6], [])])
theorem impl_readLength.tT4 : rtab .any (opsOf Tryd.f109 4) = impl_readLength.T4 := by kernel_rfl
def impl_readLength.T14 : Bool × List (List Nat × List Nat) := (true, [([], []), ([], []), ([], []), ([2], [2]), ([1, 3], [1, 3]), ([0, 0], [0]), ([4, 5, 0, 1, 2, 3, 4, 5], [4]), ([6, 0, 1, 2, 3, 4, 5, 6], [])])
theorem impl_readLength.tT14 : rtab .any (opsOf Tryd.f109 14) = impl_readLength.T14 := by kernel_rfl
set_option maxHeartbeats 16000000 in
theorem impl_readLength.calls {k : Nat} {a0 : ByteArray} {r1 : Int} {r2 : ByteArray} {r3 : Bool} {w : World} (h : impl_readLength.f k a0 = some (r1, r2, r3)) :
    Calls Tryd.prog 109 #[.string a0] w (fun e w' => e = .returned (.tuple #[.int .i64 r1, .string r2, .bool r3]) ∧ Hp noFP w w' []) := by
 have HS := Hp.start w
 have H := Aside0.mk h
 clear h
 unfold impl_readLength.f at H
 go_enter Tryd.func109, Tryd.ntmps109
 by_cases c1 : a0.toList = ([] : List UInt8)
 case pos =>
  replace H := zpos c1 H
  have c1a := beq_iff_eq.mpr c1
  have c1b := bne_eq_false_iff_eq.mpr c1
  have c1e := List.isEmpty_iff.mpr c1
  clear c1
  obtain ⟨rfl, rfl, rfl⟩ := zsome3 H
  go_wp2
  exact bodyPost_ret (results_list (rs := [.tmp 2, .tmp 3, .tmp 4]) rfl (by simp) (.tmp (.tmp (.tmp .nil)))) rfl ⟨rfl, HS.pick [] (by decide) (by rfl)⟩
 replace H := zneg c1 H
 have c1a := beq_eq_false_iff_ne.mpr c1
 have c1b := bne_iff_ne.mpr c1
 have c1e := List.isEmpty_eq_false_iff.mpr c1
 clear c1
 by_cases c2 : 0 < (a0.size : Int)
 case neg => exact zno c2 H
 replace H := zpos c2 H
 replace c2 := eq_true c2
 have c2n : (0 < a0.size) = True := eq_true (by have := of_eq_true c2; omega)
 have hx3 : ∀ h : 0 < a0.size, ((a0[0]'h).toNat : Int) = bt a0 0 := bt_at a0 0
 have hz4 : 0 < a0.size := (by have := of_eq_true c2; omega)
 by_cases c5 : (bt a0 0) < 128
 case pos =>
  replace H := zpos c5 H
  replace c5 := eq_true c5
  (try go_wp2)
  have hx101001 : ∀ h : 0 < a0.size, ((a0[0]'h).toNat : Int) = bt a0 0 := bt_at a0 0
  have hz101002 : 0 < a0.size := (by have := of_eq_true c2; omega)
  by_cases c104001 : 1 ≤ (a0.size : Int)
  case neg => exact zno c104001 H
  replace H := zpos c104001 H
  replace c104001 := eq_true c104001
  refine dr_start [] HS #[false, false, false, false, false, false, false, false] (by kernel_rfl) rfl rfl impl_readLength.tT4 (fun w7 HT HS HH => ?_)
  (try clear F)
  refine drq_of [(0, some 14), (1, some 15), (2, some 16), (3, some 17)] ?_
  repeat (first | (refine drq_pure HT (v := ?_) (a' := ?_) rfl rfl (by kernel_rfl) (fun _ _ _ h => h) (.inl ⟨by rfl, ?_⟩) ?_ ?_; rotate_left; (intro w'; go_simp; with_reducible rfl); rotate_left; (simp only [Act.put, ptn]; rfl)))
  refine drq_end ?_
  refine dr_pure 4 (some 18) HT (v := .string (a0.extract 1 a0.size)) (a' := ?_) rfl rfl (by kernel_rfl) (fun _ _ _ h => h) (.inl ⟨by rfl, fun w' => (run_cut rfl rfl Tryd.underlying9 (.inr ⟨_, _, rfl, rfl, of_eq_true (eq_true (by decide : (0:Int) ≤ 1))⟩) (.inl ⟨rfl, rfl⟩) (by have := of_eq_true (eq_true (by decide : (0:Int) ≤ 1)); have := of_eq_true c104001; have := of_eq_true (eq_true (Int.le_refl (a0.size : Int))); omega) (by have := of_eq_true (eq_true (by decide : (0:Int) ≤ 1)); have := of_eq_true c104001; have := of_eq_true (eq_true (Int.le_refl (a0.size : Int))); omega))⟩) ?_ ?_
  rotate_left
  · simp only [Act.put, ptn]; rfl
  refine drq_of [(5, some 2), (6, some 3), (7, some 4)] ?_
  repeat (first | (refine drq_pure HT (v := ?_) (a' := ?_) rfl rfl (by kernel_rfl) (fun _ _ _ h => h) (.inl ⟨by rfl, ?_⟩) ?_ ?_; rotate_left; (intro w'; go_simp; with_reducible rfl); rotate_left; (simp only [Act.put, ptn]; rfl)))
  refine drq_end ?_
  refine done_ (done_of HT.out (by kernel_rfl)) ?_
  obtain ⟨rfl, rfl, rfl⟩ := zsome3 H
  go_wp2
  exact bodyPost_ret (results_list (rs := [.tmp 2, .tmp 3, .tmp 4]) rfl (by simp) (.tmp (.tmp (.tmp .nil)))) rfl ⟨rfl, HS.pick [] (by decide) (by rfl)⟩
 replace H := zneg c5 H
 replace c5 := eq_false c5
 have hx9 : ∀ h : 0 < a0.size, ((a0[0]'h).toNat : Int) = bt a0 0 := bt_at a0 0
 have hz10 : 0 < a0.size := (by have := of_eq_true c2; omega)
 by_cases c11 : 4 < (wrap64 ((wrap64 (bt a0 0)) - 128))
 case pos =>
  replace H := zpos c11 H
  replace c11 := eq_true c11
  obtain ⟨rfl, rfl, rfl⟩ := zsome3 H
  go_wp2
  exact bodyPost_ret (results_list (rs := [.tmp 2, .tmp 3, .tmp 4]) rfl (by simp) (.tmp (.tmp (.tmp .nil)))) rfl ⟨rfl, HS.pick [] (by decide) (by rfl)⟩
 replace H := zneg c11 H
 replace c11 := eq_false c11
 by_cases c12 : (a0.size : Int) < (wrap64 (1 + (wrap64 ((wrap64 (bt a0 0)) - 128))))
 case pos =>
  replace H := zpos c12 H
  replace c12 := eq_true c12
  obtain ⟨rfl, rfl, rfl⟩ := zsome3 H
  go_wp2
  exact bodyPost_ret (results_list (rs := [.tmp 2, .tmp 3, .tmp 4]) rfl (by simp) (.tmp (.tmp (.tmp .nil)))) rfl ⟨rfl, HS.pick [] (by decide) (by rfl)⟩
 replace H := zneg c12 H
 replace c12 := eq_false c12
 by_cases c13 : 1 ≤ (wrap64 (1 + (wrap64 ((wrap64 (bt a0 0)) - 128))))
 case neg => exact zno c13 H
 replace H := zpos c13 H
 replace c13 := eq_true c13
 by_cases c14 : (wrap64 (1 + (wrap64 ((wrap64 (bt a0 0)) - 128)))) ≤ (a0.size : Int)
 case neg => exact zno c14 H
 replace H := zpos c14 H
 replace c14 := eq_true c14
 replace H := zlets H; obtain ⟨y15, e_y15, H⟩ := H
 by_cases c16 : y15.size ≤ 9223372036854775807
 case neg => exact zno c16 H
 replace H := zpos c16 H
 replace c16 := eq_true c16
 go_wp2_with (first | ((with_reducible refine gate_dst (N := 35) rfl ?_); refine ev_val rfl (run_cut rfl rfl Tryd.underlying9 (.inr ⟨_, _, rfl, rfl, of_eq_true (eq_true (by decide : (0:Int) ≤ 1))⟩) (.inr ⟨_, _, rfl, rfl, by have := of_eq_true (eq_true (by decide : (0:Int) ≤ 1)); have := of_eq_true c13; have := of_eq_true c14; omega⟩) (by have := of_eq_true (eq_true (by decide : (0:Int) ≤ 1)); have := of_eq_true c13; have := of_eq_true c14; omega) (by have := of_eq_true (eq_true (by decide : (0:Int) ≤ 1)); have := of_eq_true c13; have := of_eq_true c14; omega)) ?_) | ((with_reducible refine gate_dst (N := 36) rfl ?_); refine ev_bytes rfl HS rfl (s := y15) (by rw [e_y15.out]; rfl) Tryd.underlying9 Tryd.underlying73 Tryd.underlying5 (of_eq_true c16) ?_; clear HS; (try clear F); intro v15 w15 HS; obtain ⟨B15, d15, rfl, m15⟩ := HS.vformb 0 rfl; (try simp only [hpn, hpm] at HS)))
 go_loopg [6, 38] k (fun kq v_6 v_38 w' => ∃ (x28 : Int) (x29 : Int), v_6 = .int .i64 x28 ∧ v_38 = .int .i64 x29 ∧ Aside0 (impl_readLength.l0 kq x28 x29 a0 y15 = some (r1, r2, r3)) ∧ Aside0 (kq ≤ k) ∧ Hp noFP w w' [.own (Zd.view 5 (Zd.int .u8)) (bytesOf y15) [.slice B15 y15.size d15]])
 case atStart => exact ⟨_, _, rfl, rfl, H, ⟨Nat.le_refl _⟩, HS⟩
 case round =>
  clear HS H; (try clear F)
  obtain ⟨x28, x29, rfl, rfl, H, HKk27, HS⟩ := hrel
  cases gk with
  | zero => exact absurd H.out (by simp [impl_readLength.l0])
  | succ k27 =>
   simp only [impl_readLength.l0] at H
   by_cases c31 : x29 < (y15.size : Int)
   case pos =>
    replace H := zpos c31 H
    replace c31 := eq_true c31
    by_cases c32 : 0 ≤ x29
    case neg => exact zno c32 H
    replace H := zpos c32 H
    replace c32 := eq_true c32
    by_cases c33 : x29 < (y15.size : Int)
    case neg => exact zno c33 H
    replace H := zpos c33 H
    replace c33 := eq_true c33
    obtain ⟨ad34, rfl, e34_0⟩ := Kd.at_int (HS.vrd 0 rfl) x29 (of_eq_true c32) (of_eq_true c33)
    go_wp2
    go_roundg k27
    case measure => have := HKk27.out; omega
    case rel => exact ⟨_, _, rfl, rfl, H, ⟨by have := HKk27.out; omega⟩, HS.pick [0] (by decide) (by rfl)⟩
   replace H := zneg c31 H
   replace c31 := eq_false c31
   (try go_wp2)
   by_cases c204001 : 0 ≤ (wrap64 (1 + (wrap64 ((wrap64 (bt a0 0)) - 128))))
   case neg => exact zno c204001 H
   replace H := zpos c204001 H
   replace c204001 := eq_true c204001
   refine dr_start [] HS #[false, false, false, false, false, false, false, false] (by kernel_rfl) rfl rfl impl_readLength.tT14 (fun w36 HT HS HH => ?_)
   (try clear F)
   refine drq_of [(0, some 48), (1, some 49), (2, some 50), (3, some 51)] ?_
   repeat (first | (refine drq_pure HT (v := ?_) (a' := ?_) rfl rfl (by kernel_rfl) (fun _ _ _ h => h) (.inl ⟨by rfl, ?_⟩) ?_ ?_; rotate_left; (intro w'; go_simp; with_reducible rfl); rotate_left; (simp only [Act.put, ptn]; rfl)))
   refine drq_end ?_
   refine dr_pure 4 (some 52) HT (v := .string (a0.extract ((wrap64 (1 + (wrap64 ((wrap64 (bt a0 0)) - 128))))).toNat a0.size)) (a' := ?_) rfl rfl (by kernel_rfl) (fun _ _ _ h => h) (.inl ⟨by rfl, fun w' => (run_cut rfl rfl Tryd.underlying9 (.inr ⟨_, _, rfl, rfl, of_eq_true c204001⟩) (.inl ⟨rfl, rfl⟩) (by have := of_eq_true c204001; have := of_eq_true c14; have := of_eq_true (eq_true (Int.le_refl (a0.size : Int))); omega) (by have := of_eq_true c204001; have := of_eq_true c14; have := of_eq_true (eq_true (Int.le_refl (a0.size : Int))); omega))⟩) ?_ ?_
   rotate_left
   · simp only [Act.put, ptn]; rfl
   refine drq_of [(5, some 2), (6, some 3), (7, some 4)] ?_
   repeat (first | (refine drq_pure HT (v := ?_) (a' := ?_) rfl rfl (by kernel_rfl) (fun _ _ _ h => h) (.inl ⟨by rfl, ?_⟩) ?_ ?_; rotate_left; (intro w'; go_simp; with_reducible rfl); rotate_left; (simp only [Act.put, ptn]; rfl)))
   refine drq_end ?_
   refine done_ (done_of HT.out (by kernel_rfl)) ?_
   obtain ⟨rfl, rfl, rfl⟩ := zsome3 H
   go_wp2
   exact bodyPost_ret (results_list (rs := [.tmp 2, .tmp 3, .tmp 4]) rfl (by simp) (.tmp (.tmp (.tmp .nil)))) rfl ⟨rfl, HS.pick [] (by decide) (by rfl)⟩
/-! ### impl_readItem: function 96 -/
mutual
def impl_readItem.l0 : Nat → (List S65) → ByteArray → ByteArray → Int → Int × ByteArray × Bool → Option (S65 × ByteArray × Bool)
  | 0, _, _, _, _, _ => none
  | k + 1, l53, x55, a0, a1, t17 => (if x55.toList = ([] : List UInt8) then (some ((⟨(wrap64 (bt a0 0)), (⟨#[]⟩ : ByteArray), l53⟩ : S65), (t17.2.1.extract (t17.1).toNat t17.2.1.size), true)) else ((impl_readItem.f k x55 (wrap64 (a1 + 1))).bind fun t60 => (if t60.2.2 = true then (if l53.length + 1 ≤ 2932031007402 then (lets (l53 ++ ([t60.1] : List S65)) fun y71 => (impl_readItem.l0 k y71 t60.2.1 a0 a1 t17)) else none) else (some ((⟨0, (⟨#[]⟩ : ByteArray), ([] : List S65)⟩ : S65), (⟨#[]⟩ : ByteArray), false)))))
def impl_readItem.f : Nat → ByteArray → Int → Option (S65 × ByteArray × Bool)
  | 0, _, _ => none
  | k + 1, a0, a1 => (if a0.toList = ([] : List UInt8) then (some ((⟨0, (⟨#[]⟩ : ByteArray), ([] : List S65)⟩ : S65), (⟨#[]⟩ : ByteArray), false)) else (if 6 < a1 then (some ((⟨0, (⟨#[]⟩ : ByteArray), ([] : List S65)⟩ : S65), (⟨#[]⟩ : ByteArray), false)) else (if 0 < (a0.size : Int) then (if 1 ≤ (a0.size : Int) then ((impl_readLength.f k (a0.extract 1 a0.size)).bind fun t17 => (if t17.2.2 = true then (if (t17.2.1.size : Int) < t17.1 then (some ((⟨0, (⟨#[]⟩ : ByteArray), ([] : List S65)⟩ : S65), (⟨#[]⟩ : ByteArray), false)) else (if 0 ≤ t17.1 then (if t17.1 ≤ (t17.2.1.size : Int) then (if (wrap64 (bt a0 0)) = 48 then (impl_readItem.l0 k [] (t17.2.1.extract 0 (t17.1).toNat) a0 a1 t17) else (some ((⟨(wrap64 (bt a0 0)), (t17.2.1.extract 0 (t17.1).toNat), ([] : List S65)⟩ : S65), (t17.2.1.extract (t17.1).toNat t17.2.1.size), true))) else none) else none)) else (some ((⟨0, (⟨#[]⟩ : ByteArray), ([] : List S65)⟩ : S65), (⟨#[]⟩ : ByteArray), false)))) else none) else none)))
end
def impl_readItem.T7 : Bool × List (List Nat × List Nat) := (true, [([], []), ([], []), ([0, 1], [0, 1]), ([], []), ([], []), ([3, 4], [3, 4]), ([2, 0, 1, 2], [2]), ([5, 6, 0, 1, 2, 3, 4, 5, 6], [0, 3, 5])])
theorem impl_readItem.tT7 : rtab .any (opsOf Tryd.f96 7) = impl_readItem.T7 := by kernel_rfl
set_option maxHeartbeats 16000000 in
theorem impl_readItem.calls_ (K : Nat) : ∀ {k : Nat} (hK : k ≤ K) {a0 : ByteArray} {a1 : Int} {r1 : S65} {r2 : ByteArray} {r3 : Bool} {w : World} (h : impl_readItem.f k a0 a1 = some (r1, r2, r3)),
    Calls Tryd.prog 96 #[.string a0, .int .i64 a1] w (fun e w' => ∃ v0_ : Value, e = .returned (.tuple #[.agg #[.int .i64 r1.f0, .string r1.f1, v0_], .string r2, .bool r3]) ∧ Hp noFP w w' [.own (Zd.slice 65 q65) r1.f2 [v0_]]) := by
  induction K with
  | zero =>
    intro k hK a0 a1 r1 r2 r3 w h
    obtain rfl : k = 0 := by omega
    exact absurd h (by simp [impl_readItem.f])
  | succ K IH =>
    intro k hK a0 a1 r1 r2 r3 w h
    cases k with
    | zero => exact absurd h (by simp [impl_readItem.f])
    | succ k =>
    have HK0 : Aside0 (k ≤ K) := ⟨by omega⟩
    clear hK
    have HS := Hp.start w
    have H := Aside0.mk h
    clear h
    simp only [impl_readItem.f] at H
    go_enter Tryd.func96, Tryd.ntmps96
    by_cases c3 : a0.toList = ([] : List UInt8)
    case pos =>
     replace H := zpos c3 H
     have c3a := beq_iff_eq.mpr c3
     have c3b := bne_eq_false_iff_eq.mpr c3
     have c3e := List.isEmpty_iff.mpr c3
     clear c3
     obtain ⟨rfl, rfl, rfl⟩ := zsome3 H
     go_wp2_with (first | ((with_reducible refine gate_dst (N := 4) rfl ?_); refine ev_box rfl HS (by first | (go_simp; done) | (go_simp; rfl)) rfl ?_; clear HS; (try clear F); intro g4 w4 HS; (try simp only [hpn, hpm] at HS); have F := HS.boxes; simp only [bxn] at F) | ((with_reducible refine gate_store (p := 4) rfl ?_); refine ev_store rfl 0 0 HS (seg := [.int .i64 0, .string (⟨#[]⟩ : ByteArray), .slice none 0 0]) rfl rfl rfl rfl rfl rfl (by kernel_rfl) (by simp [wrt]) (by simp [Value.oneCell']) ?_; clear HS; (try clear F); intro w4 HS; (try simp only [hpn, hpm] at HS); have F := HS.boxes; simp only [bxn] at F))
     replace HS := HS.nil 65 q65
     exact bodyPost_ret (results_list (rs := [.cell 4 65, .tmp 5, .tmp 6]) rfl (by simp) (.cell _ _ _ _ _ rfl (HS.boxAt (i := 0) rfl) Tryd.underlying65 rfl (by kernel_rfl) (.tmp (.tmp .nil)))) rfl ⟨_, rfl, HS.pick [1] (by decide) (by rfl)⟩
    replace H := zneg c3 H
    have c3a := beq_eq_false_iff_ne.mpr c3
    have c3b := bne_iff_ne.mpr c3
    have c3e := List.isEmpty_eq_false_iff.mpr c3
    clear c3
    go_upto_if 20 with (first | ((with_reducible refine gate_dst (N := 4) rfl ?_); refine ev_box rfl HS (by first | (go_simp; done) | (go_simp; rfl)) rfl ?_; clear HS; (try clear F); intro g4 w4 HS; (try simp only [hpn, hpm] at HS); have F := HS.boxes; simp only [bxn] at F))
    by_cases c6 : 6 < a1
    case pos =>
     replace H := zpos c6 H
     replace c6 := eq_true c6
     (try simp only [c6, dcn])
     obtain ⟨rfl, rfl, rfl⟩ := zsome3 H
     go_wp2_with (first | ((with_reducible refine gate_store (p := 4) rfl ?_); refine ev_store rfl 0 0 HS (seg := [.int .i64 0, .string (⟨#[]⟩ : ByteArray), .slice none 0 0]) rfl rfl rfl rfl rfl rfl (by kernel_rfl) (by simp [wrt]) (by simp [Value.oneCell']) ?_; clear HS; (try clear F); intro w7 HS; (try simp only [hpn, hpm] at HS); have F := HS.boxes; simp only [bxn] at F))
     replace HS := HS.nil 65 q65
     exact bodyPost_ret (results_list (rs := [.cell 4 65, .tmp 5, .tmp 6]) rfl (by simp) (.cell _ _ _ _ _ rfl (HS.boxAt (i := 0) rfl) Tryd.underlying65 rfl (by kernel_rfl) (.tmp (.tmp .nil)))) rfl ⟨_, rfl, HS.pick [1] (by decide) (by rfl)⟩
    replace H := zneg c6 H
    replace c6 := eq_false c6
    (try simp only [c6, dcn])
    by_cases c9 : 0 < (a0.size : Int)
    case neg => exact zno c9 H
    replace H := zpos c9 H
    replace c9 := eq_true c9
    have c9n : (0 < a0.size) = True := eq_true (by have := of_eq_true c9; omega)
    have hx10 : ∀ h : 0 < a0.size, ((a0[0]'h).toNat : Int) = bt a0 0 := bt_at a0 0
    have hz11 : 0 < a0.size := (by have := of_eq_true c9; omega)
    by_cases c16 : 1 ≤ (a0.size : Int)
    case neg => exact zno c16 H
    replace H := zpos c16 H
    replace c16 := eq_true c16
    replace H := zbind H; obtain ⟨t17, ht17, H⟩ := H
    by_cases c19 : t17.2.2 = true
    case neg =>
     replace H := zneg c19 H
     replace c19 := eq_false_of_ne_true c19
     obtain ⟨rfl, rfl, rfl⟩ := zsome3 H
     go_wp2_with (first | ((with_reducible refine gate_dst (N := 7) rfl ?_); refine ev_box rfl HS (by first | (go_simp; done) | (go_simp; rfl)) rfl ?_; clear HS; (try clear F); intro g7 w7 HS; (try simp only [hpn, hpm] at HS); have F := HS.boxes; simp only [bxn] at F) | ((with_reducible refine gate_store (p := 7) rfl ?_); refine ev_store rfl 1 0 HS (seg := [.int .i64 (wrap64 (bt a0 0)), .string (⟨#[]⟩ : ByteArray), .slice none 0 0]) rfl rfl rfl rfl rfl rfl (by kernel_rfl) (by simp [wrt]) (by simp [Value.oneCell']) ?_; clear HS; (try clear F); intro w14 HS; (try simp only [hpn, hpm] at HS); have F := HS.boxes; simp only [bxn] at F) | ((with_reducible refine gate_dst (N := 28) rfl ?_); refine ev_val rfl (run_cut rfl rfl Tryd.underlying9 (.inr ⟨_, _, rfl, rfl, of_eq_true (eq_true (by decide : (0:Int) ≤ 1))⟩) (.inl ⟨rfl, rfl⟩) (by have := of_eq_true (eq_true (by decide : (0:Int) ≤ 1)); have := of_eq_true c16; have := of_eq_true (eq_true (Int.le_refl (a0.size : Int))); omega) (by have := of_eq_true (eq_true (by decide : (0:Int) ≤ 1)); have := of_eq_true c16; have := of_eq_true (eq_true (Int.le_refl (a0.size : Int))); omega)) ?_) | ((with_reducible refine gate_dst (N := 29) rfl ?_); refine ev_call rfl Tryd.func109 (by kernel_rfl) rfl #[.string (a0.extract 1 a0.size)] rfl (by simp only [mpn]; rfl) ?_; refine (impl_readLength.calls ht17.out).mono ?_; rintro _ wt17 ⟨rfl, HQ⟩; refine ⟨_, rfl, ?_⟩; replace HS := HS.call HQ; clear HQ; (try clear F); (try simp only [hpn, hpm] at HS); have F := HS.boxes; simp only [bxn] at F; (try simp only [c19])) | ((with_reducible refine gate_store (p := 4) rfl ?_); refine ev_store rfl 0 0 HS (seg := [.int .i64 0, .string (⟨#[]⟩ : ByteArray), .slice none 0 0]) rfl rfl rfl rfl rfl rfl (by kernel_rfl) (by simp [wrt]) (by simp [Value.oneCell']) ?_; clear HS; (try clear F); intro w81 HS; (try simp only [hpn, hpm] at HS); have F := HS.boxes; simp only [bxn] at F))
     replace HS := HS.nil 65 q65
     exact bodyPost_ret (results_list (rs := [.cell 4 65, .tmp 5, .tmp 6]) rfl (by simp) (.cell _ _ _ _ _ rfl (HS.boxAt (i := 0) rfl) Tryd.underlying65 rfl (by kernel_rfl) (.tmp (.tmp .nil)))) rfl ⟨_, rfl, HS.pick [2] (by decide) (by rfl)⟩
    replace H := zpos c19 H
    go_upto_if 40 with (first | ((with_reducible refine gate_dst (N := 7) rfl ?_); refine ev_box rfl HS (by first | (go_simp; done) | (go_simp; rfl)) rfl ?_; clear HS; (try clear F); intro g7 w7 HS; (try simp only [hpn, hpm] at HS); have F := HS.boxes; simp only [bxn] at F) | ((with_reducible refine gate_store (p := 7) rfl ?_); refine ev_store rfl 1 0 HS (seg := [.int .i64 (wrap64 (bt a0 0)), .string (⟨#[]⟩ : ByteArray), .slice none 0 0]) rfl rfl rfl rfl rfl rfl (by kernel_rfl) (by simp [wrt]) (by simp [Value.oneCell']) ?_; clear HS; (try clear F); intro w14 HS; (try simp only [hpn, hpm] at HS); have F := HS.boxes; simp only [bxn] at F) | ((with_reducible refine gate_dst (N := 28) rfl ?_); refine ev_val rfl (run_cut rfl rfl Tryd.underlying9 (.inr ⟨_, _, rfl, rfl, of_eq_true (eq_true (by decide : (0:Int) ≤ 1))⟩) (.inl ⟨rfl, rfl⟩) (by have := of_eq_true (eq_true (by decide : (0:Int) ≤ 1)); have := of_eq_true c16; have := of_eq_true (eq_true (Int.le_refl (a0.size : Int))); omega) (by have := of_eq_true (eq_true (by decide : (0:Int) ≤ 1)); have := of_eq_true c16; have := of_eq_true (eq_true (Int.le_refl (a0.size : Int))); omega)) ?_) | ((with_reducible refine gate_dst (N := 29) rfl ?_); refine ev_call rfl Tryd.func109 (by kernel_rfl) rfl #[.string (a0.extract 1 a0.size)] rfl (by simp only [mpn]; rfl) ?_; refine (impl_readLength.calls ht17.out).mono ?_; rintro _ wt17 ⟨rfl, HQ⟩; refine ⟨_, rfl, ?_⟩; replace HS := HS.call HQ; clear HQ; (try clear F); (try simp only [hpn, hpm] at HS); have F := HS.boxes; simp only [bxn] at F; (try simp only [c19])))
    by_cases c20 : (t17.2.1.size : Int) < t17.1
    case pos =>
     replace H := zpos c20 H
     replace c20 := eq_true c20
     (try simp only [c20, dcn])
     obtain ⟨rfl, rfl, rfl⟩ := zsome3 H
     go_wp2_with (first | ((with_reducible refine gate_store (p := 4) rfl ?_); refine ev_store rfl 0 0 HS (seg := [.int .i64 0, .string (⟨#[]⟩ : ByteArray), .slice none 0 0]) rfl rfl rfl rfl rfl rfl (by kernel_rfl) (by simp [wrt]) (by simp [Value.oneCell']) ?_; clear HS; (try clear F); intro w21 HS; (try simp only [hpn, hpm] at HS); have F := HS.boxes; simp only [bxn] at F))
     replace HS := HS.nil 65 q65
     exact bodyPost_ret (results_list (rs := [.cell 4 65, .tmp 5, .tmp 6]) rfl (by simp) (.cell _ _ _ _ _ rfl (HS.boxAt (i := 0) rfl) Tryd.underlying65 rfl (by kernel_rfl) (.tmp (.tmp .nil)))) rfl ⟨_, rfl, HS.pick [2] (by decide) (by rfl)⟩
    replace H := zneg c20 H
    replace c20 := eq_false c20
    (try simp only [c20, dcn])
    (try go_wp2)
    by_cases c102001 : 0 ≤ t17.1
    case neg => exact zno c102001 H
    replace H := zpos c102001 H
    replace c102001 := eq_true c102001
    by_cases c102002 : t17.1 ≤ (t17.2.1.size : Int)
    case neg => exact zno c102002 H
    replace H := zpos c102002 H
    replace c102002 := eq_true c102002
    refine dr_start [] HS #[false, false, false, false, false, false, false, false] (by kernel_rfl) rfl rfl impl_readItem.tT7 (fun w24 HT HS HH => ?_)
    (try clear F)
    refine drq_of [(0, some 42), (1, some 43)] ?_
    repeat (first | (refine drq_pure HT (v := ?_) (a' := ?_) rfl rfl (by kernel_rfl) (fun _ _ _ h => h) (.inl ⟨by rfl, ?_⟩) ?_ ?_; rotate_left; (intro w'; go_simp; with_reducible rfl); rotate_left; (simp only [Act.put, ptn]; rfl)))
    refine drq_end ?_
    refine dr_pure 2 (some 44) HT (v := .string (t17.2.1.extract 0 (t17.1).toNat)) (a' := ?_) rfl rfl (by kernel_rfl) (fun _ _ _ h => h) (.inl ⟨by rfl, fun w' => (run_cut rfl rfl Tryd.underlying9 (.inl ⟨rfl, rfl⟩) (.inr ⟨_, _, rfl, rfl, by have := of_eq_true (eq_true (by decide : (0:Int) ≤ 0)); have := of_eq_true c102001; have := of_eq_true c102002; omega⟩) (by have := of_eq_true (eq_true (by decide : (0:Int) ≤ 0)); have := of_eq_true c102001; have := of_eq_true c102002; omega) (by have := of_eq_true (eq_true (by decide : (0:Int) ≤ 0)); have := of_eq_true c102001; have := of_eq_true c102002; omega))⟩) ?_ ?_
    rotate_left
    · simp only [Act.put, ptn]; rfl
    refine drq_of [(3, some 45), (4, some 46)] ?_
    repeat (first | (refine drq_pure HT (v := ?_) (a' := ?_) rfl rfl (by kernel_rfl) (fun _ _ _ h => h) (.inl ⟨by rfl, ?_⟩) ?_ ?_; rotate_left; (intro w'; go_simp; with_reducible rfl); rotate_left; (simp only [Act.put, ptn]; rfl)))
    refine drq_end ?_
    refine dr_pure 5 (some 47) HT (v := .string (t17.2.1.extract (t17.1).toNat t17.2.1.size)) (a' := ?_) rfl rfl (by kernel_rfl) (fun _ _ _ h => h) (.inl ⟨by rfl, fun w' => (run_cut rfl rfl Tryd.underlying9 (.inr ⟨_, _, rfl, rfl, of_eq_true c102001⟩) (.inl ⟨rfl, rfl⟩) (by have := of_eq_true c102001; have := of_eq_true c102002; have := of_eq_true (eq_true (Int.le_refl (t17.2.1.size : Int))); omega) (by have := of_eq_true c102001; have := of_eq_true c102002; have := of_eq_true (eq_true (Int.le_refl (t17.2.1.size : Int))); omega))⟩) ?_ ?_
    rotate_left
    · simp only [Act.put, ptn]; rfl
    refine drq_of [(6, some 11), (7, some 9)] ?_
    repeat (first | (refine drq_pure HT (v := ?_) (a' := ?_) rfl rfl (by kernel_rfl) (fun _ _ _ h => h) (.inl ⟨by rfl, ?_⟩) ?_ ?_; rotate_left; (intro w'; go_simp; with_reducible rfl); rotate_left; (simp only [Act.put, ptn]; rfl)))
    refine drq_end ?_
    refine done_ (done_of HT.out (by kernel_rfl)) ?_
    (try clear F)
    have F := HS.boxes; simp only [bxn] at F
    by_cases c26 : (wrap64 (bt a0 0)) = 48
    case neg =>
     replace H := zneg c26 H
     have c26a := beq_eq_false_iff_ne.mpr c26
     have c26b := bne_iff_ne.mpr c26
     clear c26
     (try simp only [c26a, c26b, dcn])
     obtain ⟨rfl, rfl, rfl⟩ := zsome3 H
     go_wp2_with (first | ((with_reducible refine gate_store (p := 52) rfl ?_); refine ev_store rfl 1 1 HS (seg := [.string (t17.2.1.extract 0 (t17.1).toNat)]) rfl rfl rfl rfl rfl rfl (by kernel_rfl) (by simp [wrt]) (by simp [Value.oneCell']) ?_; clear HS; (try clear F); intro w77 HS; (try simp only [hpn, hpm] at HS); have F := HS.boxes; simp only [bxn] at F) | ((with_reducible refine gate_store (p := 4) rfl ?_); refine ev_store rfl 0 0 HS (seg := [.int .i64 (wrap64 (bt a0 0)), .string (t17.2.1.extract 0 (t17.1).toNat), .slice none 0 0]) rfl rfl rfl rfl rfl rfl (by kernel_rfl) (by simp [wrt]) (by simp [Value.oneCell']) ?_; clear HS; (try clear F); intro w79 HS; (try simp only [hpn, hpm] at HS); have F := HS.boxes; simp only [bxn] at F))
     replace HS := HS.nil 65 q65
     exact bodyPost_ret (results_list (rs := [.cell 4 65, .tmp 5, .tmp 6]) rfl (by simp) (.cell _ _ _ _ _ rfl (HS.boxAt (i := 0) rfl) Tryd.underlying65 rfl (by kernel_rfl) (.tmp (.tmp .nil)))) rfl ⟨_, rfl, HS.pick [2] (by decide) (by rfl)⟩
    replace H := zpos c26 H
    have c26a := beq_iff_eq.mpr c26
    have c26b := bne_eq_false_iff_eq.mpr c26
    clear c26
    (try simp only [c26a, c26b, dcn])
    go_wp2
    replace HS := HS.nil 65 q65
    go_loopg [11] k (fun kq v_11 w' => ∃ (l53 : List S65) (v54 : Value) (x55 : ByteArray), v_11 = .string x55 ∧ Aside0 (impl_readItem.l0 kq l53 x55 a0 a1 t17 = some (r1, r2, r3)) ∧ Aside0 (kq ≤ k) ∧ Hp noFP w w' [.box g4 [.int .i64 0, .string (⟨#[]⟩ : ByteArray), .slice none 0 0] 65, .box g7 [.int .i64 (wrap64 (bt a0 0)), .string (⟨#[]⟩ : ByteArray), v54] 65, .own (Zd.slice 65 q65) l53 [v54]])
    case atStart => exact ⟨_, _, _, rfl, H, ⟨Nat.le_refl _⟩, HS⟩
    case round =>
     clear HS H; (try clear F)
     obtain ⟨l53, v54, x55, rfl, H, HKk52, HS⟩ := hrel
     obtain ⟨B54, d54, rfl, m54⟩ := HS.form 2 rfl
     have F := HS.boxes; simp only [bxn] at F
     cases gk with
     | zero => exact absurd H.out (by simp [impl_readItem.l0])
     | succ k52 =>
      simp only [impl_readItem.l0] at H
      by_cases c57 : x55.toList = ([] : List UInt8)
      case pos =>
       replace H := zpos c57 H
       have c57a := beq_iff_eq.mpr c57
       have c57b := bne_eq_false_iff_eq.mpr c57
       have c57e := List.isEmpty_iff.mpr c57
       clear c57
       obtain ⟨rfl, rfl, rfl⟩ := zsome3 H
       go_wp2_with (first | ((with_reducible refine gate_store (p := 4) rfl ?_); refine ev_store rfl 0 0 HS (seg := [.int .i64 (wrap64 (bt a0 0)), .string (⟨#[]⟩ : ByteArray), .slice B54 l53.length d54]) rfl rfl rfl rfl rfl rfl (by kernel_rfl) (by simp [wrt]) (by simp [Value.oneCell']) ?_; clear HS; (try clear F); intro w58 HS; (try simp only [hpn, hpm] at HS); have F := HS.boxes; simp only [bxn] at F))
       exact bodyPost_ret (results_list (rs := [.cell 4 65, .tmp 5, .tmp 6]) rfl (by simp) (.cell _ _ _ _ _ rfl (HS.boxAt (i := 0) rfl) Tryd.underlying65 rfl (by kernel_rfl) (.tmp (.tmp .nil)))) rfl ⟨_, rfl, HS.pick [2] (by decide) (by rfl)⟩
      replace H := zneg c57 H
      have c57a := beq_eq_false_iff_ne.mpr c57
      have c57b := bne_iff_ne.mpr c57
      have c57e := List.isEmpty_eq_false_iff.mpr c57
      clear c57
      replace H := zbind H; obtain ⟨t60, ht60, H⟩ := H
      go_upto_if 66 with (first | ((with_reducible refine gate_dst (N := 61) rfl ?_); refine ev_call rfl Tryd.func96 (by kernel_rfl) rfl #[.string x55, .int .i64 (wrap64 (a1 + 1))] rfl (by simp only [mpn]; rfl) ?_; refine (IH (by have := HK0.out; have := HKk52.out; omega) ht60.out).mono ?_; rintro _ wt60 ⟨v61, rfl, HQ⟩; refine ⟨_, rfl, ?_⟩; replace HS := HS.call HQ; clear HQ; (try clear F); obtain ⟨B61, d61, rfl, m61⟩ := HS.form 3 rfl; (try simp only [hpn, hpm] at HS); have F := HS.boxes; simp only [bxn] at F) | ((with_reducible refine gate_dst (N := 12) rfl ?_); refine ev_box rfl HS (by first | (go_simp; done) | (go_simp; rfl)) rfl ?_; clear HS; (try clear F); intro g12 w12 HS; (try simp only [hpn, hpm] at HS); have F := HS.boxes; simp only [bxn] at F) | ((with_reducible refine gate_store (p := 12) rfl ?_); refine ev_store rfl 4 0 HS (seg := [.int .i64 t60.1.f0, .string t60.1.f1, .slice B61 t60.1.f2.length d61]) rfl rfl rfl rfl rfl rfl (by kernel_rfl) (by simp [wrt]) (by simp [Value.oneCell']) ?_; clear HS; (try clear F); intro w65 HS; (try simp only [hpn, hpm] at HS); have F := HS.boxes; simp only [bxn] at F))
      by_cases c67 : t60.2.2 = true
      case neg =>
       replace H := zneg c67 H
       replace c67 := eq_false_of_ne_true c67
       (try simp only [c67, dcn])
       obtain ⟨rfl, rfl, rfl⟩ := zsome3 H
       go_wp2_with (first | ((with_reducible refine gate_store (p := 4) rfl ?_); refine ev_store rfl 0 0 HS (seg := [.int .i64 0, .string (⟨#[]⟩ : ByteArray), .slice none 0 0]) rfl rfl rfl rfl rfl rfl (by kernel_rfl) (by simp [wrt]) (by simp [Value.oneCell']) ?_; clear HS; (try clear F); intro w75 HS; (try simp only [hpn, hpm] at HS); have F := HS.boxes; simp only [bxn] at F))
       replace HS := HS.nil 65 q65
       exact bodyPost_ret (results_list (rs := [.cell 4 65, .tmp 5, .tmp 6]) rfl (by simp) (.cell _ _ _ _ _ rfl (HS.boxAt (i := 0) rfl) Tryd.underlying65 rfl (by kernel_rfl) (.tmp (.tmp .nil)))) rfl ⟨_, rfl, HS.pick [5] (by decide) (by rfl)⟩
      replace H := zpos c67 H
      (try simp only [c67, dcn])
      by_cases c70 : l53.length + 1 ≤ 2932031007402
      case neg => exact zno c70 H
      replace H := zpos c70 H
      replace c70 := eq_true c70
      replace H := zlets H; obtain ⟨y71, e_y71, H⟩ := H
      go_wp2_with (first | ((with_reducible refine gate_dst (N := 71) rfl ?_); refine ev_lit rfl q65 [3] ([t60.1] : List S65) ([.int .i64 t60.1.f0, .string t60.1.f1, .slice B61 t60.1.f2.length d61] ++ []) HS (by first | (go_simp; done) | (go_simp; rfl)) rfl rfl (Nat.le_of_ble_eq_true rfl) (MadeL.cons (js1 := [3]) (c := [.int .i64 t60.1.f0, .string t60.1.f1, .slice B61 t60.1.f2.length d61]) rfl (fun S hd hh => q65_pack (x := t60.1) hd (hh 3 (.own (Zd.slice 65 q65) t60.1.f2 [.slice B61 t60.1.f2.length d61]) rfl) (by decide)) MadeL.nil (by decide)) ?_; clear HS; (try clear F); intro v68 w68 HS; obtain ⟨B68, d68, rfl, m68⟩ := HS.formn 1 5 rfl rfl; (try simp only [hpn, hpm] at HS); have F := HS.boxes; simp only [bxn] at F) | ((with_reducible refine gate_dst (N := 72) rfl ?_); refine ev_append rfl q65 2 5 HS rfl rfl (by decide) rfl rfl rfl Tryd.underlying63 info65 rfl (by decide) (by decide) (by have := of_eq_true c70; first | omega | (simp only [List.length_cons, List.length_nil, List.length_append, Nat.zero_add] at this ⊢; omega)) ?_; clear HS; (try clear F); intro v71 w71 HS; rw [← e_y71.out] at HS; obtain ⟨B71, d71, rfl, m71⟩ := HS.form 6 rfl; (try simp only [hpn, hpm] at HS); have F := HS.boxes; simp only [bxn] at F) | ((with_reducible refine gate_store (p := 73) rfl ?_); refine ev_store rfl 1 2 HS (seg := [.slice B71 y71.length d71]) rfl rfl rfl rfl rfl rfl (by kernel_rfl) (by simp [wrt]) (by simp [Value.oneCell']) ?_; clear HS; (try clear F); intro w73 HS; (try simp only [hpn, hpm] at HS); have F := HS.boxes; simp only [bxn] at F))
      go_roundg k52
      case measure => have := HK0.out; have := HKk52.out; omega
      case rel => exact ⟨_, _, _, rfl, H, ⟨by have := HK0.out; have := HKk52.out; omega⟩, HS.pick [0, 1, 6] (by decide) (by rfl)⟩
theorem impl_readItem.calls {k : Nat} {a0 : ByteArray} {a1 : Int} {r1 : S65} {r2 : ByteArray} {r3 : Bool} {w : World} (h : impl_readItem.f k a0 a1 = some (r1, r2, r3)) :
    Calls Tryd.prog 96 #[.string a0, .int .i64 a1] w (fun e w' => ∃ v0_ : Value, e = .returned (.tuple #[.agg #[.int .i64 r1.f0, .string r1.f1, v0_], .string r2, .bool r3]) ∧ Hp noFP w w' [.own (Zd.slice 65 q65) r1.f2 [v0_]]) := impl_readItem.calls_ k (Nat.le_refl k) h
/-! ### impl_ReadItem: function 52 -/
def impl_ReadItem.f (k : Nat) (a0 : ByteArray) : Option (S65 × Bool) := (if 4000 < (a0.size : Int) then (some ((⟨0, (⟨#[]⟩ : ByteArray), ([] : List S65)⟩ : S65), false)) else ((impl_readItem.f k a0 0).bind fun t6 => (if t6.2.2 = true then (if t6.2.1.toList = ([] : List UInt8) then ((impl_ItemText.f k t6.1).bind fun t15 => (if t15.2 = true then (if t15.1.toList = a0.toList then (some ((⟨t6.1.f0, t6.1.f1, t6.1.f2⟩ : S65), true)) else (some ((⟨0, (⟨#[]⟩ : ByteArray), ([] : List S65)⟩ : S65), false))) else (some ((⟨0, (⟨#[]⟩ : ByteArray), ([] : List S65)⟩ : S65), false)))) else (some ((⟨0, (⟨#[]⟩ : ByteArray), ([] : List S65)⟩ : S65), false))) else (some ((⟨0, (⟨#[]⟩ : ByteArray), ([] : List S65)⟩ : S65), false)))))
set_option maxHeartbeats 16000000 in
theorem impl_ReadItem.calls {k : Nat} {a0 : ByteArray} {r1 : S65} {r2 : Bool} {w : World} (h : impl_ReadItem.f k a0 = some (r1, r2)) :
    Calls Tryd.prog 52 #[.string a0] w (fun e w' => ∃ v0_ : Value, e = .returned (.tuple #[.agg #[.int .i64 r1.f0, .string r1.f1, v0_], .bool r2]) ∧ Hp noFP w w' [.own (Zd.slice 65 q65) r1.f2 [v0_]]) := by
 have HS := Hp.start w
 have H := Aside0.mk h
 clear h
 unfold impl_ReadItem.f at H
 go_enter Tryd.func52, Tryd.ntmps52
 go_upto_if 11 with (first | ((with_reducible refine gate_dst (N := 2) rfl ?_); refine ev_box rfl HS (by first | (go_simp; done) | (go_simp; rfl)) rfl ?_; clear HS; (try clear F); intro g2 w2 HS; (try simp only [hpn, hpm] at HS); have F := HS.boxes; simp only [bxn] at F))
 by_cases c3 : 4000 < (a0.size : Int)
 case pos =>
  replace H := zpos c3 H
  replace c3 := eq_true c3
  (try simp only [c3, dcn])
  obtain ⟨rfl, rfl⟩ := zsome2 H
  go_wp2_with (first | ((with_reducible refine gate_store (p := 2) rfl ?_); refine ev_store rfl 0 0 HS (seg := [.int .i64 0, .string (⟨#[]⟩ : ByteArray), .slice none 0 0]) rfl rfl rfl rfl rfl rfl (by kernel_rfl) (by simp [wrt]) (by simp [Value.oneCell']) ?_; clear HS; (try clear F); intro w4 HS; (try simp only [hpn, hpm] at HS); have F := HS.boxes; simp only [bxn] at F))
  replace HS := HS.nil 65 q65
  exact bodyPost_ret (results_list (rs := [.cell 2 65, .tmp 3]) rfl (by simp) (.cell _ _ _ _ _ rfl (HS.boxAt (i := 0) rfl) Tryd.underlying65 rfl (by kernel_rfl) (.tmp .nil))) rfl ⟨_, rfl, HS.pick [1] (by decide) (by rfl)⟩
 replace H := zneg c3 H
 replace c3 := eq_false c3
 (try simp only [c3, dcn])
 replace H := zbind H; obtain ⟨t6, ht6, H⟩ := H
 by_cases c13 : t6.2.2 = true
 case neg =>
  replace H := zneg c13 H
  replace c13 := eq_false_of_ne_true c13
  obtain ⟨rfl, rfl⟩ := zsome2 H
  go_wp2_with (first | ((with_reducible refine gate_dst (N := 15) rfl ?_); refine ev_call rfl Tryd.func96 (by kernel_rfl) rfl #[.string a0, .int .i64 0] rfl (by simp only [mpn]; rfl) ?_; refine (impl_readItem.calls ht6.out).mono ?_; rintro _ wt6 ⟨v7, rfl, HQ⟩; refine ⟨_, rfl, ?_⟩; replace HS := HS.call HQ; clear HQ; (try clear F); obtain ⟨B7, d7, rfl, m7⟩ := HS.form 1 rfl; (try simp only [hpn, hpm] at HS); have F := HS.boxes; simp only [bxn] at F) | ((with_reducible refine gate_dst (N := 4) rfl ?_); refine ev_box rfl HS (by first | (go_simp; done) | (go_simp; rfl)) rfl ?_; clear HS; (try clear F); intro g4 w4 HS; (try simp only [hpn, hpm] at HS); have F := HS.boxes; simp only [bxn] at F) | ((with_reducible refine gate_store (p := 4) rfl ?_); refine ev_store rfl 2 0 HS (seg := [.int .i64 t6.1.f0, .string t6.1.f1, .slice B7 t6.1.f2.length d7]) rfl rfl rfl rfl rfl rfl (by kernel_rfl) (by simp [wrt]) (by simp [Value.oneCell']) ?_; clear HS; (try clear F); intro w11 HS; (try simp only [hpn, hpm] at HS); have F := HS.boxes; simp only [bxn] at F; (try simp only [c13])) | ((with_reducible refine gate_store (p := 2) rfl ?_); refine ev_store rfl 0 0 HS (seg := [.int .i64 0, .string (⟨#[]⟩ : ByteArray), .slice none 0 0]) rfl rfl rfl rfl rfl rfl (by kernel_rfl) (by simp [wrt]) (by simp [Value.oneCell']) ?_; clear HS; (try clear F); intro w27 HS; (try simp only [hpn, hpm] at HS); have F := HS.boxes; simp only [bxn] at F))
  replace HS := HS.nil 65 q65
  exact bodyPost_ret (results_list (rs := [.cell 2 65, .tmp 3]) rfl (by simp) (.cell _ _ _ _ _ rfl (HS.boxAt (i := 0) rfl) Tryd.underlying65 rfl (by kernel_rfl) (.tmp .nil))) rfl ⟨_, rfl, HS.pick [3] (by decide) (by rfl)⟩
 replace H := zpos c13 H
 go_upto_if 24 with (first | ((with_reducible refine gate_dst (N := 15) rfl ?_); refine ev_call rfl Tryd.func96 (by kernel_rfl) rfl #[.string a0, .int .i64 0] rfl (by simp only [mpn]; rfl) ?_; refine (impl_readItem.calls ht6.out).mono ?_; rintro _ wt6 ⟨v7, rfl, HQ⟩; refine ⟨_, rfl, ?_⟩; replace HS := HS.call HQ; clear HQ; (try clear F); obtain ⟨B7, d7, rfl, m7⟩ := HS.form 1 rfl; (try simp only [hpn, hpm] at HS); have F := HS.boxes; simp only [bxn] at F) | ((with_reducible refine gate_dst (N := 4) rfl ?_); refine ev_box rfl HS (by first | (go_simp; done) | (go_simp; rfl)) rfl ?_; clear HS; (try clear F); intro g4 w4 HS; (try simp only [hpn, hpm] at HS); have F := HS.boxes; simp only [bxn] at F) | ((with_reducible refine gate_store (p := 4) rfl ?_); refine ev_store rfl 2 0 HS (seg := [.int .i64 t6.1.f0, .string t6.1.f1, .slice B7 t6.1.f2.length d7]) rfl rfl rfl rfl rfl rfl (by kernel_rfl) (by simp [wrt]) (by simp [Value.oneCell']) ?_; clear HS; (try clear F); intro w11 HS; (try simp only [hpn, hpm] at HS); have F := HS.boxes; simp only [bxn] at F; (try simp only [c13])))
 by_cases c14 : t6.2.1.toList = ([] : List UInt8)
 case neg =>
  replace H := zneg c14 H
  have c14a := beq_eq_false_iff_ne.mpr c14
  have c14b := bne_iff_ne.mpr c14
  have c14e := List.isEmpty_eq_false_iff.mpr c14
  clear c14
  (try simp only [c14a, c14b, c14e, dcn])
  obtain ⟨rfl, rfl⟩ := zsome2 H
  go_wp2_with (first | ((with_reducible refine gate_store (p := 2) rfl ?_); refine ev_store rfl 0 0 HS (seg := [.int .i64 0, .string (⟨#[]⟩ : ByteArray), .slice none 0 0]) rfl rfl rfl rfl rfl rfl (by kernel_rfl) (by simp [wrt]) (by simp [Value.oneCell']) ?_; clear HS; (try clear F); intro w25 HS; (try simp only [hpn, hpm] at HS); have F := HS.boxes; simp only [bxn] at F))
  replace HS := HS.nil 65 q65
  exact bodyPost_ret (results_list (rs := [.cell 2 65, .tmp 3]) rfl (by simp) (.cell _ _ _ _ _ rfl (HS.boxAt (i := 0) rfl) Tryd.underlying65 rfl (by kernel_rfl) (.tmp .nil))) rfl ⟨_, rfl, HS.pick [3] (by decide) (by rfl)⟩
 replace H := zpos c14 H
 have c14a := beq_iff_eq.mpr c14
 have c14b := bne_eq_false_iff_eq.mpr c14
 have c14e := List.isEmpty_iff.mpr c14
 clear c14
 (try simp only [c14a, c14b, c14e, dcn])
 replace H := zbind H; obtain ⟨t15, ht15, H⟩ := H
 by_cases c17 : t15.2 = true
 case neg =>
  replace H := zneg c17 H
  replace c17 := eq_false_of_ne_true c17
  obtain ⟨rfl, rfl⟩ := zsome2 H
  go_wp2_with (first | ((with_reducible refine gate_dst (N := 28) rfl ?_); refine ev_call rfl Tryd.func41 (by kernel_rfl) rfl #[.agg #[.int .i64 t6.1.f0, .string t6.1.f1, .slice B7 t6.1.f2.length d7]] rfl (by simp only [mpn]; rfl) ?_; refine (impl_ItemText.calls ht15.out (HS.rd 1 rfl) m7).mono ?_; rintro _ wt15 ⟨rfl, HQ⟩; refine ⟨_, rfl, ?_⟩; replace HS := HS.call HQ; clear HQ; (try clear F); (try simp only [hpn, hpm] at HS); have F := HS.boxes; simp only [bxn] at F; (try simp only [c17])) | ((with_reducible refine gate_store (p := 2) rfl ?_); refine ev_store rfl 0 0 HS (seg := [.int .i64 0, .string (⟨#[]⟩ : ByteArray), .slice none 0 0]) rfl rfl rfl rfl rfl rfl (by kernel_rfl) (by simp [wrt]) (by simp [Value.oneCell']) ?_; clear HS; (try clear F); intro w23 HS; (try simp only [hpn, hpm] at HS); have F := HS.boxes; simp only [bxn] at F))
  replace HS := HS.nil 65 q65
  exact bodyPost_ret (results_list (rs := [.cell 2 65, .tmp 3]) rfl (by simp) (.cell _ _ _ _ _ rfl (HS.boxAt (i := 0) rfl) Tryd.underlying65 rfl (by kernel_rfl) (.tmp .nil))) rfl ⟨_, rfl, HS.pick [3] (by decide) (by rfl)⟩
 replace H := zpos c17 H
 go_upto_if 37 with (first | ((with_reducible refine gate_dst (N := 28) rfl ?_); refine ev_call rfl Tryd.func41 (by kernel_rfl) rfl #[.agg #[.int .i64 t6.1.f0, .string t6.1.f1, .slice B7 t6.1.f2.length d7]] rfl (by simp only [mpn]; rfl) ?_; refine (impl_ItemText.calls ht15.out (HS.rd 1 rfl) m7).mono ?_; rintro _ wt15 ⟨rfl, HQ⟩; refine ⟨_, rfl, ?_⟩; replace HS := HS.call HQ; clear HQ; (try clear F); (try simp only [hpn, hpm] at HS); have F := HS.boxes; simp only [bxn] at F; (try simp only [c17])))
 by_cases c18 : t15.1.toList = a0.toList
 case pos =>
  replace H := zpos c18 H
  have c18a := beq_iff_eq.mpr c18
  have c18b := bne_eq_false_iff_eq.mpr c18
  clear c18
  (try simp only [c18a, c18b, dcn])
  obtain ⟨rfl, rfl⟩ := zsome2 H
  go_wp2_with (first | ((with_reducible refine gate_store (p := 2) rfl ?_); refine ev_store rfl 0 0 HS (seg := [.int .i64 t6.1.f0, .string t6.1.f1, .slice B7 t6.1.f2.length d7]) rfl rfl rfl rfl rfl rfl (by kernel_rfl) (by simp [wrt]) (by simp [Value.oneCell']) ?_; clear HS; (try clear F); intro w19 HS; (try simp only [hpn, hpm] at HS); have F := HS.boxes; simp only [bxn] at F))
  exact bodyPost_ret (results_list (rs := [.cell 2 65, .tmp 3]) rfl (by simp) (.cell _ _ _ _ _ rfl (HS.boxAt (i := 0) rfl) Tryd.underlying65 rfl (by kernel_rfl) (.tmp .nil))) rfl ⟨_, rfl, HS.pick [1] (by decide) (by rfl)⟩
 replace H := zneg c18 H
 have c18a := beq_eq_false_iff_ne.mpr c18
 have c18b := bne_iff_ne.mpr c18
 clear c18
 (try simp only [c18a, c18b, dcn])
 obtain ⟨rfl, rfl⟩ := zsome2 H
 go_wp2_with (first | ((with_reducible refine gate_store (p := 2) rfl ?_); refine ev_store rfl 0 0 HS (seg := [.int .i64 0, .string (⟨#[]⟩ : ByteArray), .slice none 0 0]) rfl rfl rfl rfl rfl rfl (by kernel_rfl) (by simp [wrt]) (by simp [Value.oneCell']) ?_; clear HS; (try clear F); intro w21 HS; (try simp only [hpn, hpm] at HS); have F := HS.boxes; simp only [bxn] at F))
 replace HS := HS.nil 65 q65
 exact bodyPost_ret (results_list (rs := [.cell 2 65, .tmp 3]) rfl (by simp) (.cell _ _ _ _ _ rfl (HS.boxAt (i := 0) rfl) Tryd.underlying65 rfl (by kernel_rfl) (.tmp .nil))) rfl ⟨_, rfl, HS.pick [3] (by decide) (by rfl)⟩
end Go.Proofs.YtoaoncnbimcdgaaDoor.F
