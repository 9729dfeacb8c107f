/- Functions of the program and of the law, and that their calls do what is written here. -/
import Derived.Test.YtacocpknielofaaGreatDoorZgFnExactStoreOkj
namespace Go.Proofs.YtacocpknielofaaGreatDoor.F
open Go.RowKit Go.Proofs.YtacocpknielofaaGreatDoorW.PrintWords Go.Proofs.YtacocpknielofaaGreatDoorW.PrintLast Go.Proofs.YtacocpknielofaaGreatDoorW.PrintMore Go.Proofs.YtacocpknielofaaGreatDoor.Z
attribute [local go_sem] max2_int min2_int max_two min_two max_three min_three max_four min_four
set_option linter.unusedVariables false
set_option linter.unusedSimpArgs false
set_option maxRecDepth 100000
set_option maxHeartbeats 16000000
def laws_eqAnchor.f (a0 : S115) (a1 : S115) : Option (Bool) := (if a0.f0.toList = a1.f0.toList then (if a0.f1.toList = a1.f1.toList then (some true) else (some false)) else (some false))
theorem laws_eqAnchor.calls {a0 : S115} {a1 : S115} {r : Bool} {w : World} (h : laws_eqAnchor.f a0 a1 = some r) :
    Calls Tryz.prog 150 #[.agg #[.string a0.f0, .string a0.f1], .agg #[.string a1.f0, .string a1.f1]] w (fun e w' => e = .returned (.bool r) ∧ Hp noFP w w' []) := by
 have HS := Hp.start w
 have H := Aside0.mk h
 clear h
 unfold laws_eqAnchor.f at H
 go_enter Tryz.func150, Tryz.ntmps150
 go_upto_if 9 with (first | ((with_reducible refine gd 2 rfl ?_); refine ev_bx HS ?_; clear HS; intro g2 w2 HS F) | ((with_reducible refine gd 3 rfl ?_); refine ev_bx HS ?_; clear HS; intro g3 w3 HS F))
 replace H := znif' H; rcases H with ⟨c5, H⟩ | ⟨c5, H⟩
 case inl =>
  have c5a := beq_eq_false_iff_ne.mpr c5
  have c5b := bne_iff_ne.mpr c5
  clear c5
  (try simp only [c5a, c5b, dcn])
  obtain rfl := zsome H
  go_wp2
  go_ret
  exact HS.pk
 have c5a := beq_iff_eq.mpr c5
 have c5b := bne_eq_false_iff_eq.mpr c5
 clear c5
 (try simp only [c5a, c5b, dcn])
 replace H := znif' H; rcases H with ⟨c6, H⟩ | ⟨c6, H⟩
 case inl =>
  have c6a := beq_eq_false_iff_ne.mpr c6
  have c6b := bne_iff_ne.mpr c6
  clear c6
  obtain rfl := zsome H
  go_wp2
  go_ret
  exact HS.pk
 have c6a := beq_iff_eq.mpr c6
 have c6b := bne_eq_false_iff_eq.mpr c6
 clear c6
 obtain rfl := zsome H
 go_wp2
 go_ret
 exact HS.pk
def laws_eqAnchorS.l0 : Nat → Int → (List S115) → (List S115) → Option (Bool)
  | 0, _, _, _ => none
  | k + 1, x5, a0, a1 => (if x5 < (a0.length : Int) then (if 0 ≤ x5 then (if x5 < (a0.length : Int) then (if x5 < (a1.length : Int) then ((laws_eqAnchor.f (rd_T115 a0 x5) (rd_T115 a1 x5)).bind fun t14 => (if t14 = true then (laws_eqAnchorS.l0 k (wrap64 (x5 + 1)) a0 a1) else (some false))) else none) else none) else none) else (some true))
def laws_eqAnchorS.f (k : Nat) (a0 : (List S115)) (a1 : (List S115)) : Option (Bool) := (if (a0.length : Int) = (a1.length : Int) then (laws_eqAnchorS.l0 k 0 a0 a1) else (some false))
def laws_eqAnchorS.T6 : TT := (true, [([], []), ([], []), ([0, 1], [0, 1]), ([2], [2]), ([], []), ([], []), ([4, 5], [4, 5]), ([6], [6]), ([3, 7], [3, 7]), ([8], [8])])
theorem laws_eqAnchorS.tT6 : rtab .any (opsOf Tryz.f70 6) = laws_eqAnchorS.T6 := by kernel_rfl
theorem laws_eqAnchorS.calls {k : Nat} {a0 : (List S115)} {a1 : (List S115)} {Ap0 Ap1 : Option Addr} {np0 cp0 np1 cp1 : Nat} {r : Bool} {w : World} (h : laws_eqAnchorS.f k a0 a1 = some r) (gp0 : k115.C w Ap0 np0 a0) (lp0 : np0 ≤ cp0) (gp1 : k115.C w Ap1 np1 a1) (lp1 : np1 ≤ cp1) :
    Calls Tryz.prog 70 #[.slice Ap0 np0 cp0, .slice Ap1 np1 cp1] w (fun e w' => e = .returned (.bool r) ∧ Hp noFP w w' []) := by
 obtain rfl := C_len gp0
 obtain rfl := C_len gp1
 have HS := Hp.start w
 have H := Aside0.mk h
 clear h
 unfold laws_eqAnchorS.f at H
 go_enter Tryz.func70, Tryz.ntmps70
 replace H := znif' H; rcases H with ⟨c1, H⟩ | ⟨c1, H⟩
 case inl =>
  have c1a := beq_eq_false_iff_ne.mpr c1
  have c1b := bne_iff_ne.mpr c1
  clear c1
  obtain rfl := zsome H
  go_wp2
  go_ret
  exact HS.pk
 have c1a := beq_iff_eq.mpr c1
 have c1b := bne_eq_false_iff_eq.mpr c1
 clear c1
 go_wp2
 go_loopg [5] k (fun kq v_5 w' => ∃ (x5 : Int), v_5 = .int .i64 x5 ∧ Aside0 (laws_eqAnchorS.l0 kq x5 a0 a1 = some r) ∧ Aside0 (kq ≤ k) ∧ Hp noFP w w' [])
 case atStart => exact ⟨_, rfl, H, ⟨Nat.le_refl _⟩, HS⟩
 case round =>
  clear HS H; (try clear F)
  obtain ⟨x5, rfl, H, HKk4, HS⟩ := hrel
  cases gk with
  | zero => exact absurd H.out (by simp [laws_eqAnchorS.l0])
  | succ k4 =>
   simp only [laws_eqAnchorS.l0] at H
   replace H := znif H; rcases H with ⟨c7, H⟩ | ⟨c7, H⟩
   case inl =>
    obtain rfl := zsome H
    go_wp2
    go_ret
    exact HS.pk
   (try go_wp2)
   replace H := zgo H; obtain ⟨c3, H⟩ := H
   replace H := zgo H; obtain ⟨c8, H⟩ := H
   obtain ⟨ad10, rfl, e10_0, e10_1⟩ := at_T115 gp0 x5 (of_eq_true c3) (of_eq_true c8)
   replace H := zgo H; obtain ⟨c12, H⟩ := H
   obtain ⟨ad13, rfl, e13_0, e13_1⟩ := at_T115 gp1 x5 (of_eq_true c3) (of_eq_true c12)
   replace H := zbind H; obtain ⟨t14, ht14, H⟩ := H
   refine dr_start [] HS #[false, false, false, false, false, false, false, false, false, false] (by kernel_rfl) rfl rfl laws_eqAnchorS.tT6 (fun w9 HT HS HH => ?_)
   (try clear F)
   refine drq_of [(0, some 17), (1, some 18), (2, some 19)] ?_
   repeat (refine drp HT ?_)
   refine drq_end ?_
   refine dr_take 3 (some 20) HT HH (v := ?_) (a' := ?_) rfl rfl (by kernel_rfl) (fun _ _ _ h => h) (.inl ⟨by rfl, ?_⟩) ?_ ?_
   rotate_left
   · rintro w' ⟨rs', HS'⟩; have e10_0 := HS'.keepc e10_0; have e10_1 := HS'.keepc e10_1; go_simp; with_reducible rfl
   rotate_left
   · simp only [Act.put, ptn]; rfl
   refine drq_of [(4, some 21), (5, some 22), (6, some 23)] ?_
   repeat (refine drp HT ?_)
   refine drq_end ?_
   refine dr_take 7 (some 24) HT HH (v := ?_) (a' := ?_) rfl rfl (by kernel_rfl) (fun _ _ _ h => h) (.inl ⟨by rfl, ?_⟩) ?_ ?_
   rotate_left
   · rintro w' ⟨rs', HS'⟩; have e13_0 := HS'.keepc e13_0; have e13_1 := HS'.keepc e13_1; go_simp; with_reducible rfl
   rotate_left
   · simp only [Act.put, ptn]; rfl
   refine dr1 8 HT fun K hK => ?_
   refine go_cl HS (laws_eqAnchor.calls ht14.out) Tryz.func150 ?_; clear HS; intro wt14 HS F
   refine nrm 25 hK ⟨_, HS⟩ (fun HH => ?_); clear hK K
   refine drq_of [(9, some 26)] ?_
   repeat (refine drp HT ?_)
   refine drq_end ?_
   refine done_ (done_of HT.out (by kernel_rfl)) ?_
   replace H := znifb H; rcases H with ⟨c11, H⟩ | ⟨c11, H⟩
   case inl =>
    subst c11
    (try simp only [dcn, dcu, dcf])
    obtain rfl := zsome H
    go_wp2
    go_ret
    exact HS.pk
   subst c11
   (try simp only [dcn, dcu, dcf])
   go_wp2
   go_roundg k4
   case measure => have := HKk4.out; omega
   case rel => exact ⟨_, rfl, H, ⟨by have := HKk4.out; omega⟩, HS.pick [] (by decide) (by rfl)⟩
def laws_eqStore.f (k : Nat) (a0 : S33) (a1 : S33) : Option (Bool) := ((laws_eqCertS.f k a0.f0 a1.f0).bind fun t5 => (if t5 = true then ((laws_eqCrlS.f k a0.f1 a1.f1).bind fun t8 => (if t8 = true then ((laws_eqAnchorS.f k a0.f2 a1.f2).bind fun t11 => (if t11 = true then (some true) else (some false))) else (some false))) else (some false)))
theorem laws_eqStore.calls {k : Nat} {a0 : S33} {a1 : S33} {Ap0 Ap1 Ap2 Ap3 Ap4 Ap5 : Option Addr} {np0 cp0 np1 cp1 np2 cp2 np3 cp3 np4 cp4 np5 cp5 : Nat} {r : Bool} {w : World} (h : laws_eqStore.f k a0 a1 = some r) (gp0 : k91.C w Ap0 np0 a0.f0) (lp0 : np0 ≤ cp0) (gp1 : k81.C w Ap1 np1 a0.f1) (lp1 : np1 ≤ cp1) (gp2 : k115.C w Ap2 np2 a0.f2) (lp2 : np2 ≤ cp2) (gp3 : k91.C w Ap3 np3 a1.f0) (lp3 : np3 ≤ cp3) (gp4 : k81.C w Ap4 np4 a1.f1) (lp4 : np4 ≤ cp4) (gp5 : k115.C w Ap5 np5 a1.f2) (lp5 : np5 ≤ cp5) :
    Calls Tryz.prog 15 #[.agg #[.slice Ap0 np0 cp0, .slice Ap1 np1 cp1, .slice Ap2 np2 cp2], .agg #[.slice Ap3 np3 cp3, .slice Ap4 np4 cp4, .slice Ap5 np5 cp5]] w (fun e w' => e = .returned (.bool r) ∧ Hp noFP w w' []) := by
 obtain rfl := C_len gp0
 obtain rfl := C_len gp1
 obtain rfl := C_len gp2
 obtain rfl := C_len gp3
 obtain rfl := C_len gp4
 obtain rfl := C_len gp5
 have HS := Hp.start w
 have H := Aside0.mk h
 clear h
 unfold laws_eqStore.f at H
 go_enter Tryz.func15, Tryz.ntmps15
 replace H := zbind H; obtain ⟨t5, ht5, H⟩ := H
 go_upto_if 10 with (first | ((with_reducible refine gd 2 rfl ?_); refine ev_bx HS ?_; clear HS; intro g2 w2 HS F) | ((with_reducible refine gd 3 rfl ?_); refine ev_bx HS ?_; clear HS; intro g3 w3 HS F) | ((with_reducible refine gd 9 rfl ?_); refine ev_cl HS (laws_eqCertS.calls ht5.out (HS.ro gp0) lp0 (HS.ro gp3) lp3) Tryz.func68 ?_; clear HS; intro wt5 HS F))
 replace H := znifb H; rcases H with ⟨c7, H⟩ | ⟨c7, H⟩
 case inl =>
  subst c7
  (try simp only [dcn, dcu, dcf])
  obtain rfl := zsome H
  go_wp2
  go_ret
  exact HS.pk
 subst c7
 (try simp only [dcn, dcu, dcf])
 replace H := zbind H; obtain ⟨t8, ht8, H⟩ := H
 go_upto_if 16 with (first | ((with_reducible refine gd 15 rfl ?_); refine ev_cl HS (laws_eqCrlS.calls ht8.out (HS.ro gp1) lp1 (HS.ro gp4) lp4) Tryz.func69 ?_; clear HS; intro wt8 HS F))
 replace H := znifb H; rcases H with ⟨c10, H⟩ | ⟨c10, H⟩
 case inl =>
  subst c10
  (try simp only [dcn, dcu, dcf])
  obtain rfl := zsome H
  go_wp2
  go_ret
  exact HS.pk
 subst c10
 (try simp only [dcn, dcu, dcf])
 replace H := zbind H; obtain ⟨t11, ht11, H⟩ := H
 go_upto_if 22 with (first | ((with_reducible refine gd 21 rfl ?_); refine ev_cl HS (laws_eqAnchorS.calls ht11.out (HS.ro gp2) lp2 (HS.ro gp5) lp5) Tryz.func70 ?_; clear HS; intro wt11 HS F))
 replace H := zifb H; rcases H with ⟨c13, H⟩ | ⟨c13, H⟩
 case inl =>
  subst c13
  (try simp only [dcn, dcu, dcf])
  obtain rfl := zsome H
  go_wp2
  go_ret
  exact HS.pk
 subst c13
 (try simp only [dcn, dcu, dcf])
 obtain rfl := zsome H
 go_wp2
 go_ret
 exact HS.pk
def laws_markIntS.l0 : Nat → (List Int) → Int → Int → (List Int) → Option (Int × (List Int))
  | 0, _, _, _, _ => none
  | k + 1, l19, x21, x22, a0 => (if x22 < (a0.length : Int) then (if 0 ≤ x22 then (if x22 < (a0.length : Int) then (laws_markIntS.l0 k (l19.set (x22).toNat x21) (wrap64 (x21 + 1)) (wrap64 (x22 + 1)) a0) else none) else none) else (some (x21, l19)))
def laws_markIntS.f (k : Nat) (a0 : (List Int)) (a1 : Int) : Option (Int × (List Int)) := (laws_markIntS.l0 k a0 a1 0 a0)
theorem laws_markIntS.calls {k : Nat} {a0 : (List Int)} {a1 : Int} {A : FP} {vp0 : Value} {r1 : Int} {r2 : (List Int)} {w : World} (h : laws_markIntS.f k a0 a1 = some (r1, r2)) (HS : Hp A w w [.own (Zd.slice 3 (Zd.int .i64)) a0 [vp0]]) :
    Calls Tryz.prog 120 #[vp0, .int .i64 a1] w (fun e w' => e = .returned (.int .i64 r1) ∧ Hp A w w' [.own (Zd.slice 3 (Zd.int .i64)) r2 [vp0]]) := by
 obtain ⟨B1, d1, rfl, m1⟩ := HS.form 0 rfl
 have H := Aside0.mk h
 clear h
 unfold laws_markIntS.f at H
 go_enter Tryz.func120, Tryz.ntmps120
 go_wp2
 go_loopg [1, 5] k (fun kq v_1 v_5 w' => ∃ (l19 : List Int) (x21 : Int) (x22 : Int), v_1 = .int .i64 x21 ∧ v_5 = .int .i64 x22 ∧ Aside0 (laws_markIntS.l0 kq l19 x21 x22 a0 = some (r1, r2)) ∧ Aside0 (kq ≤ k) ∧ Hp A w w' [.own (Zd.slice 3 (Zd.int .i64)) l19 [.slice B1 a0.length d1]])
 case atStart => exact ⟨_, _, _, rfl, rfl, H, ⟨Nat.le_refl _⟩, HS⟩
 case round =>
  clear HS H; (try clear F)
  obtain ⟨l19, x21, x22, rfl, rfl, H, HKk18, HS⟩ := hrel
  cases gk with
  | zero => exact absurd H.out (by simp [laws_markIntS.l0])
  | succ k18 =>
   simp only [laws_markIntS.l0] at H
   replace H := znif H; rcases H with ⟨c24, H⟩ | ⟨c24, H⟩
   case inl =>
    obtain ⟨rfl, rfl⟩ := zsome2 H
    go_wp2
    go_ret
    exact ⟨rfl, HS.pick [0] (by decide) (by rfl)⟩
   replace H := zgo H; obtain ⟨c25, H⟩ := H
   replace H := zgo H; obtain ⟨c26, H⟩ := H
   obtain ⟨ad27, rfl, e27_0⟩ := Kd.at_int (HS.rd 0 rfl) x22 (of_eq_true c25) (of_eq_true c26)
   go_wp2_with (first | ((with_reducible refine gate_store (p := 15) rfl ?_); refine ev_set rfl (Zd.int .i64) 0 [] x22 x21 HS (seg := [.int .i64 x21]) rfl (by decide) rfl rfl rfl (by first | rfl | exact (Nat.mul_one _).symm) rfl rfl (by kernel_rfl) (by simp [Value.oneCell']) ⟨of_eq_true c25, of_eq_true c26⟩ rfl (made_flat (fun _ => rfl)) ?_; clear HS; intro w28 HS; (try simp only [hpn, hpm] at HS)))
   go_roundg k18
   case measure => have := HKk18.out; omega
   case rel => exact ⟨_, _, _, rfl, rfl, H, ⟨by have := HKk18.out; omega⟩, HS.pick [0] (by decide) (by rfl)⟩
def laws_markText.l0 : Nat → Int → ByteArray → Option (ByteArray)
  | 0, _, _ => none
  | k + 1, x11, x12 => (if 0 < x11 then (if (strOfNums ([((wrap64 (48 + (Int.tmod x11 10))) % 256)] : List Int)).size + x12.size ≤ 9223372036854775807 then (laws_markText.l0 k (wrap64 (Int.tdiv x11 10)) ((strOfNums ([((wrap64 (48 + (Int.tmod x11 10))) % 256)] : List Int)) ++ x12)) else none) else (if (⟨#[109]⟩ : ByteArray).size + x12.size ≤ 9223372036854775807 then (some ((⟨#[109]⟩ : ByteArray) ++ x12)) else none))
def laws_markText.f (k : Nat) (a0 : Int) : Option (ByteArray) := (if a0 ≤ 0 then (some (⟨#[109, 48]⟩ : ByteArray)) else (laws_markText.l0 k a0 (⟨#[]⟩ : ByteArray)))
theorem laws_markText.calls {k : Nat} {a0 : Int} {r : ByteArray} {w : World} (h : laws_markText.f k a0 = some r) :
    Calls Tryz.prog 180 #[.int .i64 a0] w (fun e w' => e = .returned (.string r) ∧ Hp noFP w w' []) := by
 have HS := Hp.start w
 have H := Aside0.mk h
 clear h
 unfold laws_markText.f at H
 go_enter Tryz.func180, Tryz.ntmps180
 replace H := zif H; rcases H with ⟨c1, H⟩ | ⟨c1, H⟩
 case inl =>
  obtain rfl := zsome H
  go_wp2
  go_ret
  exact HS.pk
 go_wp2
 go_loopg [0, 3] k (fun kq v_0 v_3 w' => ∃ (x11 : Int) (x12 : ByteArray), v_0 = .int .i64 x11 ∧ v_3 = .string x12 ∧ Aside0 (laws_markText.l0 kq x11 x12 = some r) ∧ Aside0 (kq ≤ k) ∧ Hp noFP w w' [])
 case atStart => exact ⟨_, _, rfl, rfl, H, ⟨Nat.le_refl _⟩, HS⟩
 case round =>
  clear HS H; (try clear F)
  obtain ⟨x11, x12, rfl, rfl, H, HKk10, HS⟩ := hrel
  cases gk with
  | zero => exact absurd H.out (by simp [laws_markText.l0])
  | succ k10 =>
   simp only [laws_markText.l0] at H
   replace H := znif H; rcases H with ⟨c14, H⟩ | ⟨c14, H⟩
   case inl =>
    replace H := zgo H; obtain ⟨c18, H⟩ := H
    obtain rfl := zsome H
    go_wp2_with (first | ((with_reducible refine gd 19 rfl ?_); refine ev_val rfl (run_cat rfl rfl rfl (of_eq_true c18)) ?_))
    go_ret
    exact HS.pk
   replace H := zgo H; obtain ⟨c17, H⟩ := H
   go_wp2_with (first | ((with_reducible refine gd 12 rfl ?_); refine ev_li (Zd.int .u8) [] ([((wrap64 (48 + (Int.tmod x11 10))) % 256)] : List Int) ([.int .u8 ((wrap64 (48 + (Int.tmod x11 10))) % 256)] ++ []) HS (MadeL.cons (js1 := []) (c := [.int .u8 ((wrap64 (48 + (Int.tmod x11 10))) % 256)]) rfl (made_flat (fun _ => rfl)) MadeL.nil (by decide)) ?_; clear HS; intro v15 w15 HS F; obtain ⟨B15, d15, rfl, m15⟩ := HS.formn 1 0 rfl rfl) | ((with_reducible refine gd 13 rfl ?_); refine ev_val rfl (run_str rfl rfl Tryz.underlying225 Tryz.underlying5 Tryz.underlying9 (HS.rd 0 rfl)) ?_) | ((with_reducible refine gd 15 rfl ?_); refine ev_val rfl (run_cat rfl rfl rfl (of_eq_true c17)) ?_))
   go_roundg k10
   case measure => have := HKk10.out; omega
   case rel => exact ⟨_, _, rfl, rfl, H, ⟨by have := HKk10.out; omega⟩, HS.pick [] (by decide) (by rfl)⟩
def laws_markStringS.l0 : Nat → (List ByteArray) → Int → Int → (List ByteArray) → Option (Int × (List ByteArray))
  | 0, _, _, _, _ => none
  | k + 1, l21, x23, x24, a0 => (if x24 < (a0.length : Int) then ((laws_markText.f k x23).bind fun t27 => (if 0 ≤ x24 then (if x24 < (a0.length : Int) then (laws_markStringS.l0 k (l21.set (x24).toNat t27) (wrap64 (x23 + 1)) (wrap64 (x24 + 1)) a0) else none) else none)) else (some (x23, l21)))
def laws_markStringS.f (k : Nat) (a0 : (List ByteArray)) (a1 : Int) : Option (Int × (List ByteArray)) := (laws_markStringS.l0 k a0 a1 0 a0)
theorem laws_markStringS.calls {k : Nat} {a0 : (List ByteArray)} {a1 : Int} {A : FP} {vp0 : Value} {r1 : Int} {r2 : (List ByteArray)} {w : World} (h : laws_markStringS.f k a0 a1 = some (r1, r2)) (HS : Hp A w w [.own (Zd.slice 9 Zd.string) a0 [vp0]]) :
    Calls Tryz.prog 121 #[vp0, .int .i64 a1] w (fun e w' => e = .returned (.int .i64 r1) ∧ Hp A w w' [.own (Zd.slice 9 Zd.string) r2 [vp0]]) := by
 obtain ⟨B1, d1, rfl, m1⟩ := HS.form 0 rfl
 have H := Aside0.mk h
 clear h
 unfold laws_markStringS.f at H
 go_enter Tryz.func121, Tryz.ntmps121
 go_wp2
 go_loopg [1, 5] k (fun kq v_1 v_5 w' => ∃ (l21 : List ByteArray) (x23 : Int) (x24 : Int), v_1 = .int .i64 x23 ∧ v_5 = .int .i64 x24 ∧ Aside0 (laws_markStringS.l0 kq l21 x23 x24 a0 = some (r1, r2)) ∧ Aside0 (kq ≤ k) ∧ Hp A w w' [.own (Zd.slice 9 Zd.string) l21 [.slice B1 a0.length d1]])
 case atStart => exact ⟨_, _, _, rfl, rfl, H, ⟨Nat.le_refl _⟩, HS⟩
 case round =>
  clear HS H; (try clear F)
  obtain ⟨l21, x23, x24, rfl, rfl, H, HKk20, HS⟩ := hrel
  cases gk with
  | zero => exact absurd H.out (by simp [laws_markStringS.l0])
  | succ k20 =>
   simp only [laws_markStringS.l0] at H
   replace H := znif H; rcases H with ⟨c26, H⟩ | ⟨c26, H⟩
   case inl =>
    obtain ⟨rfl, rfl⟩ := zsome2 H
    go_wp2
    go_ret
    exact ⟨rfl, HS.pick [0] (by decide) (by rfl)⟩
   replace H := zbind H; obtain ⟨t27, ht27, H⟩ := H
   replace H := zgo H; obtain ⟨c29, H⟩ := H
   replace H := zgo H; obtain ⟨c30, H⟩ := H
   go_wp2_with (first | ((with_reducible refine gd 15 rfl ?_); refine ev_cl HS (laws_markText.calls ht27.out) Tryz.func180 ?_; clear HS; intro wt27 HS F; obtain ⟨ad31, rfl, e31_0⟩ := Kd.at_string (HS.rd 0 rfl) x24 (of_eq_true c29) (of_eq_true c30)) | ((with_reducible refine gate_store (p := 16) rfl ?_); refine ev_set rfl Zd.string 0 [] x24 t27 HS (seg := [.string t27]) rfl (by decide) rfl rfl rfl (by first | rfl | exact (Nat.mul_one _).symm) rfl rfl (by kernel_rfl) (by simp [Value.oneCell']) ⟨of_eq_true c29, of_eq_true c30⟩ rfl (made_flat (fun _ => rfl)) ?_; clear HS; intro w32 HS; (try simp only [hpn, hpm] at HS)))
   go_roundg k20
   case measure => have := HKk20.out; omega
   case rel => exact ⟨_, _, _, rfl, rfl, H, ⟨by have := HKk20.out; omega⟩, HS.pick [0] (by decide) (by rfl)⟩
def laws_markCertS.l0 : Nat → (List S91) → Int → Int → (List S91) → Option (Int × (List S91))
  | 0, _, _, _, _ => none
  | k + 1, l76, x78, x79, a0 => (if x79 < (a0.length : Int) then (if 0 ≤ x79 then (if x79 < (a0.length : Int) then (lets (l76.set (x79).toNat (u91_0_3 (rd_T91 l76 x79) x78)) fun y86 => ((laws_markText.f k (wrap64 (x78 + 1))).bind fun t88 => (lets (y86.set (x79).toNat (u91_1_9 (rd_T91 y86 x79) t88)) fun y92 => ((laws_markText.f k (wrap64 ((wrap64 (x78 + 1)) + 1))).bind fun t94 => (lets (y92.set (x79).toNat (u91_2_9 (rd_T91 y92 x79) t94)) fun y98 => (lets (y98.set (x79).toNat (u91_3_3 (rd_T91 y98 x79) (wrap64 ((wrap64 ((wrap64 (x78 + 1)) + 1)) + 1)))) fun y102 => (lets (y102.set (x79).toNat (u91_4_3 (rd_T91 y102 x79) (wrap64 ((wrap64 ((wrap64 ((wrap64 (x78 + 1)) + 1)) + 1)) + 1)))) fun y106 => ((laws_markText.f k (wrap64 ((wrap64 ((wrap64 ((wrap64 ((wrap64 (x78 + 1)) + 1)) + 1)) + 1)) + 1))).bind fun t108 => (lets (y106.set (x79).toNat (u91_5_9 (rd_T91 y106 x79) t108)) fun y112 => (lets (y112.set (x79).toNat (u91_6_4 (rd_T91 y112 x79) ((Int.tmod (wrap64 ((wrap64 ((wrap64 ((wrap64 ((wrap64 ((wrap64 (x78 + 1)) + 1)) + 1)) + 1)) + 1)) + 1)) 3) == 0))) fun y116 => (lets (y116.set (x79).toNat (u91_7_3 (rd_T91 y116 x79) (wrap64 ((wrap64 ((wrap64 ((wrap64 ((wrap64 ((wrap64 ((wrap64 (x78 + 1)) + 1)) + 1)) + 1)) + 1)) + 1)) + 1)))) fun y120 => (lets (y120.set (x79).toNat (u91_8_3 (rd_T91 y120 x79) (wrap64 ((wrap64 ((wrap64 ((wrap64 ((wrap64 ((wrap64 ((wrap64 ((wrap64 (x78 + 1)) + 1)) + 1)) + 1)) + 1)) + 1)) + 1)) + 1)))) fun y124 => ((laws_markIntS.f k ((rd_T91 y124 x79).f9) (wrap64 ((wrap64 ((wrap64 ((wrap64 ((wrap64 ((wrap64 ((wrap64 ((wrap64 ((wrap64 (x78 + 1)) + 1)) + 1)) + 1)) + 1)) + 1)) + 1)) + 1)) + 1))).bind fun t127 => (lets (y124.set (x79).toNat (u91_9_52 (rd_T91 y124 x79) t127.2)) fun y128 => ((laws_markStringS.f k ((rd_T91 y128 x79).f10) t127.1).bind fun t131 => (lets (y128.set (x79).toNat (u91_10_57 (rd_T91 y128 x79) t131.2)) fun y132 => ((laws_markStringS.f k ((rd_T91 y132 x79).f11) t131.1).bind fun t135 => (lets (y132.set (x79).toNat (u91_11_57 (rd_T91 y132 x79) t135.2)) fun y136 => ((laws_markText.f k t135.1).bind fun t138 => (lets (y136.set (x79).toNat (u91_12_9 (rd_T91 y136 x79) t138)) fun y142 => (laws_markCertS.l0 k y142 (wrap64 (t135.1 + 1)) (wrap64 (x79 + 1)) a0))))))))))))))))))))) else none) else none) else (some (x78, l76)))
def laws_markCertS.f (k : Nat) (a0 : (List S91)) (a1 : Int) : Option (Int × (List S91)) := (laws_markCertS.l0 k a0 a1 0 a0)
theorem laws_markCertS.calls {k : Nat} {a0 : (List S91)} {a1 : Int} {A : FP} {vp0 : Value} {r1 : Int} {r2 : (List S91)} {w : World} (h : laws_markCertS.f k a0 a1 = some (r1, r2)) (HS : Hp A w w [.own (Zd.slice 91 q91) a0 [vp0]]) :
    Calls Tryz.prog 111 #[vp0, .int .i64 a1] w (fun e w' => e = .returned (.int .i64 r1) ∧ Hp A w w' [.own (Zd.slice 91 q91) r2 [vp0]]) := by
 obtain ⟨B1, d1, rfl, m1⟩ := HS.form 0 rfl
 have H := Aside0.mk h
 clear h
 unfold laws_markCertS.f at H
 go_enter Tryz.func111, Tryz.ntmps111
 go_wp2
 go_loopg [1, 5] k (fun kq v_1 v_5 w' => ∃ (l76 : List S91) (x78 : Int) (x79 : Int), v_1 = .int .i64 x78 ∧ v_5 = .int .i64 x79 ∧ Aside0 (laws_markCertS.l0 kq l76 x78 x79 a0 = some (r1, r2)) ∧ Aside0 (kq ≤ k) ∧ Hp A w w' [.own (Zd.slice 91 q91) l76 [.slice B1 a0.length d1]])
 case atStart => exact ⟨_, _, _, rfl, rfl, H, ⟨Nat.le_refl _⟩, HS⟩
 case round =>
  clear HS H; (try clear F)
  obtain ⟨l76, x78, x79, rfl, rfl, H, HKk75, HS⟩ := hrel
  cases gk with
  | zero => exact absurd H.out (by simp [laws_markCertS.l0])
  | succ k75 =>
   simp only [laws_markCertS.l0] at H
   replace H := znif H; rcases H with ⟨c81, H⟩ | ⟨c81, H⟩
   case inl =>
    obtain ⟨rfl, rfl⟩ := zsome2 H
    go_wp2
    go_ret
    exact ⟨rfl, HS.pick [0] (by decide) (by rfl)⟩
   replace H := zgo H; obtain ⟨c82, H⟩ := H
   replace H := zgo H; obtain ⟨c83, H⟩ := H
   obtain ⟨ad84, B84_9, d84_9, B84_10, d84_10, B84_11, d84_11, rfl, e84_0, e84_1, e84_2, e84_3, e84_4, e84_5, e84_6, e84_7, e84_8, e84_9, e84_10, e84_11, e84_12, m84_9, y84_9, m84_10, y84_10, m84_11, y84_11⟩ := at_T91 (HS.rd 0 rfl) x79 (of_eq_true c82) (of_eq_true c83)
   replace H := zlets H; obtain ⟨y86, e_y86, H⟩ := H
   replace H := zbind H; obtain ⟨t88, ht88, H⟩ := H
   replace H := zlets H; obtain ⟨y92, e_y92, H⟩ := H
   replace H := zbind H; obtain ⟨t94, ht94, H⟩ := H
   replace H := zlets H; obtain ⟨y98, e_y98, H⟩ := H
   replace H := zlets H; obtain ⟨y102, e_y102, H⟩ := H
   replace H := zlets H; obtain ⟨y106, e_y106, H⟩ := H
   replace H := zbind H; obtain ⟨t108, ht108, H⟩ := H
   replace H := zlets H; obtain ⟨y112, e_y112, H⟩ := H
   replace H := zlets H; obtain ⟨y116, e_y116, H⟩ := H
   replace H := zlets H; obtain ⟨y120, e_y120, H⟩ := H
   replace H := zlets H; obtain ⟨y124, e_y124, H⟩ := H
   replace H := zbind H; obtain ⟨t127, ht127, H⟩ := H
   replace H := zlets H; obtain ⟨y128, e_y128, H⟩ := H
   replace H := zbind H; obtain ⟨t131, ht131, H⟩ := H
   replace H := zlets H; obtain ⟨y132, e_y132, H⟩ := H
   replace H := zbind H; obtain ⟨t135, ht135, H⟩ := H
   replace H := zlets H; obtain ⟨y136, e_y136, H⟩ := H
   replace H := zbind H; obtain ⟨t138, ht138, H⟩ := H
   replace H := zlets H; obtain ⟨y142, e_y142, H⟩ := H
   go_wp2_with (first | ((with_reducible refine gate_store (p := 16) rfl ?_); refine ev_sp lens91_0_3 0 [] x79 (rd_T91 l76 x79) x78 HS (ad := ad84) (seg := [.int .i64 x78]) (of_eq_true c82) (of_eq_true c83) (fun hl => rd_T91_get hl) (made_flat (fun _ => rfl)) ?_; clear HS; intro w85 HS; rw [← e_y86.out] at HS; (try simp only [hpn, hpm] at HS)) | ((with_reducible refine gd 22 rfl ?_); refine ev_cl HS (laws_markText.calls ht88.out) Tryz.func180 ?_; clear HS; intro wt88 HS F; obtain ⟨ad90, B90_9, d90_9, B90_10, d90_10, B90_11, d90_11, hq90, e90_0, e90_1, e90_2, e90_3, e90_4, e90_5, e90_6, e90_7, e90_8, e90_9, e90_10, e90_11, e90_12, m90_9, y90_9, m90_10, y90_10, m90_11, y90_11⟩ := at_T91 (HS.rd 0 rfl) x79 (of_eq_true c82) (of_eq_true c83); obtain rfl := Option.some.inj hq90) | ((with_reducible refine gate_store (p := 24) rfl ?_); refine ev_sp lens91_1_9 0 [] x79 (rd_T91 y86 x79) t88 HS (ad := ad84) (seg := [.string t88]) (of_eq_true c82) (of_eq_true c83) (fun hl => rd_T91_get hl) (made_flat (fun _ => rfl)) ?_; clear HS; intro w91 HS; rw [← e_y92.out] at HS; (try simp only [hpn, hpm] at HS)) | ((with_reducible refine gd 30 rfl ?_); refine ev_cl HS (laws_markText.calls ht94.out) Tryz.func180 ?_; clear HS; intro wt94 HS F; obtain ⟨ad96, B96_9, d96_9, B96_10, d96_10, B96_11, d96_11, hq96, e96_0, e96_1, e96_2, e96_3, e96_4, e96_5, e96_6, e96_7, e96_8, e96_9, e96_10, e96_11, e96_12, m96_9, y96_9, m96_10, y96_10, m96_11, y96_11⟩ := at_T91 (HS.rd 0 rfl) x79 (of_eq_true c82) (of_eq_true c83); obtain rfl := Option.some.inj hq96) | ((with_reducible refine gate_store (p := 32) rfl ?_); refine ev_sp lens91_2_9 0 [] x79 (rd_T91 y92 x79) t94 HS (ad := ad84) (seg := [.string t94]) (of_eq_true c82) (of_eq_true c83) (fun hl => rd_T91_get hl) (made_flat (fun _ => rfl)) ?_; clear HS; intro w97 HS; rw [← e_y98.out] at HS; (try simp only [hpn, hpm] at HS); obtain ⟨ad100, B100_9, d100_9, B100_10, d100_10, B100_11, d100_11, hq100, e100_0, e100_1, e100_2, e100_3, e100_4, e100_5, e100_6, e100_7, e100_8, e100_9, e100_10, e100_11, e100_12, m100_9, y100_9, m100_10, y100_10, m100_11, y100_11⟩ := at_T91 (HS.rd 0 rfl) x79 (of_eq_true c82) (of_eq_true c83); obtain rfl := Option.some.inj hq100) | ((with_reducible refine gate_store (p := 39) rfl ?_); refine ev_sp lens91_3_3 0 [] x79 (rd_T91 y98 x79) (wrap64 ((wrap64 ((wrap64 (x78 + 1)) + 1)) + 1)) HS (ad := ad84) (seg := [.int .i64 (wrap64 ((wrap64 ((wrap64 (x78 + 1)) + 1)) + 1))]) (of_eq_true c82) (of_eq_true c83) (fun hl => rd_T91_get hl) (made_flat (fun _ => rfl)) ?_; clear HS; intro w101 HS; rw [← e_y102.out] at HS; (try simp only [hpn, hpm] at HS); obtain ⟨ad104, B104_9, d104_9, B104_10, d104_10, B104_11, d104_11, hq104, e104_0, e104_1, e104_2, e104_3, e104_4, e104_5, e104_6, e104_7, e104_8, e104_9, e104_10, e104_11, e104_12, m104_9, y104_9, m104_10, y104_10, m104_11, y104_11⟩ := at_T91 (HS.rd 0 rfl) x79 (of_eq_true c82) (of_eq_true c83); obtain rfl := Option.some.inj hq104) | ((with_reducible refine gate_store (p := 46) rfl ?_); refine ev_sp lens91_4_3 0 [] x79 (rd_T91 y102 x79) (wrap64 ((wrap64 ((wrap64 ((wrap64 (x78 + 1)) + 1)) + 1)) + 1)) HS (ad := ad84) (seg := [.int .i64 (wrap64 ((wrap64 ((wrap64 ((wrap64 (x78 + 1)) + 1)) + 1)) + 1))]) (of_eq_true c82) (of_eq_true c83) (fun hl => rd_T91_get hl) (made_flat (fun _ => rfl)) ?_; clear HS; intro w105 HS; rw [← e_y106.out] at HS; (try simp only [hpn, hpm] at HS)) | ((with_reducible refine gd 52 rfl ?_); refine ev_cl HS (laws_markText.calls ht108.out) Tryz.func180 ?_; clear HS; intro wt108 HS F; obtain ⟨ad110, B110_9, d110_9, B110_10, d110_10, B110_11, d110_11, hq110, e110_0, e110_1, e110_2, e110_3, e110_4, e110_5, e110_6, e110_7, e110_8, e110_9, e110_10, e110_11, e110_12, m110_9, y110_9, m110_10, y110_10, m110_11, y110_11⟩ := at_T91 (HS.rd 0 rfl) x79 (of_eq_true c82) (of_eq_true c83); obtain rfl := Option.some.inj hq110) | ((with_reducible refine gate_store (p := 54) rfl ?_); refine ev_sp lens91_5_9 0 [] x79 (rd_T91 y106 x79) t108 HS (ad := ad84) (seg := [.string t108]) (of_eq_true c82) (of_eq_true c83) (fun hl => rd_T91_get hl) (made_flat (fun _ => rfl)) ?_; clear HS; intro w111 HS; rw [← e_y112.out] at HS; (try simp only [hpn, hpm] at HS); obtain ⟨ad114, B114_9, d114_9, B114_10, d114_10, B114_11, d114_11, hq114, e114_0, e114_1, e114_2, e114_3, e114_4, e114_5, e114_6, e114_7, e114_8, e114_9, e114_10, e114_11, e114_12, m114_9, y114_9, m114_10, y114_10, m114_11, y114_11⟩ := at_T91 (HS.rd 0 rfl) x79 (of_eq_true c82) (of_eq_true c83); obtain rfl := Option.some.inj hq114) | ((with_reducible refine gate_store (p := 63) rfl ?_); refine ev_sp lens91_6_4 0 [] x79 (rd_T91 y112 x79) ((Int.tmod (wrap64 ((wrap64 ((wrap64 ((wrap64 ((wrap64 ((wrap64 (x78 + 1)) + 1)) + 1)) + 1)) + 1)) + 1)) 3) == 0) HS (ad := ad84) (seg := [.bool ((Int.tmod (wrap64 ((wrap64 ((wrap64 ((wrap64 ((wrap64 ((wrap64 (x78 + 1)) + 1)) + 1)) + 1)) + 1)) + 1)) 3) == 0)]) (of_eq_true c82) (of_eq_true c83) (fun hl => rd_T91_get hl) (made_flat (fun _ => rfl)) ?_; clear HS; intro w115 HS; rw [← e_y116.out] at HS; (try simp only [hpn, hpm] at HS); obtain ⟨ad118, B118_9, d118_9, B118_10, d118_10, B118_11, d118_11, hq118, e118_0, e118_1, e118_2, e118_3, e118_4, e118_5, e118_6, e118_7, e118_8, e118_9, e118_10, e118_11, e118_12, m118_9, y118_9, m118_10, y118_10, m118_11, y118_11⟩ := at_T91 (HS.rd 0 rfl) x79 (of_eq_true c82) (of_eq_true c83); obtain rfl := Option.some.inj hq118) | ((with_reducible refine gate_store (p := 70) rfl ?_); refine ev_sp lens91_7_3 0 [] x79 (rd_T91 y116 x79) (wrap64 ((wrap64 ((wrap64 ((wrap64 ((wrap64 ((wrap64 ((wrap64 (x78 + 1)) + 1)) + 1)) + 1)) + 1)) + 1)) + 1)) HS (ad := ad84) (seg := [.int .i64 (wrap64 ((wrap64 ((wrap64 ((wrap64 ((wrap64 ((wrap64 ((wrap64 (x78 + 1)) + 1)) + 1)) + 1)) + 1)) + 1)) + 1))]) (of_eq_true c82) (of_eq_true c83) (fun hl => rd_T91_get hl) (made_flat (fun _ => rfl)) ?_; clear HS; intro w119 HS; rw [← e_y120.out] at HS; (try simp only [hpn, hpm] at HS); obtain ⟨ad122, B122_9, d122_9, B122_10, d122_10, B122_11, d122_11, hq122, e122_0, e122_1, e122_2, e122_3, e122_4, e122_5, e122_6, e122_7, e122_8, e122_9, e122_10, e122_11, e122_12, m122_9, y122_9, m122_10, y122_10, m122_11, y122_11⟩ := at_T91 (HS.rd 0 rfl) x79 (of_eq_true c82) (of_eq_true c83); obtain rfl := Option.some.inj hq122) | ((with_reducible refine gate_store (p := 77) rfl ?_); refine ev_sp lens91_8_3 0 [] x79 (rd_T91 y120 x79) (wrap64 ((wrap64 ((wrap64 ((wrap64 ((wrap64 ((wrap64 ((wrap64 ((wrap64 (x78 + 1)) + 1)) + 1)) + 1)) + 1)) + 1)) + 1)) + 1)) HS (ad := ad84) (seg := [.int .i64 (wrap64 ((wrap64 ((wrap64 ((wrap64 ((wrap64 ((wrap64 ((wrap64 ((wrap64 (x78 + 1)) + 1)) + 1)) + 1)) + 1)) + 1)) + 1)) + 1))]) (of_eq_true c82) (of_eq_true c83) (fun hl => rd_T91_get hl) (made_flat (fun _ => rfl)) ?_; clear HS; intro w123 HS; rw [← e_y124.out] at HS; (try simp only [hpn, hpm] at HS); obtain ⟨ad126, B126_9, d126_9, B126_10, d126_10, B126_11, d126_11, hq126, e126_0, e126_1, e126_2, e126_3, e126_4, e126_5, e126_6, e126_7, e126_8, e126_9, e126_10, e126_11, e126_12, m126_9, y126_9, m126_10, y126_10, m126_11, y126_11⟩ := at_T91 (HS.rd 0 rfl) x79 (of_eq_true c82) (of_eq_true c83); obtain rfl := Option.some.inj hq126) | ((with_reducible refine gd 86 rfl ?_); refine HS.lend_el 0 x79 rfl lens91_9_52 (of_eq_true c82) (of_eq_true c83) e126_9 (by rintro g rfl; simp only [add_plain]; refine congrArg (fun n => (⟨g, n, none⟩ : Addr)) ?_; first | rfl | omega) (fun hl => rd_T91_get hl) (fun A' HL HA HB => ?_); refine ev_lc (laws_markIntS.calls ht127.out HA) (fun _ HQ => HB _ _ _ HQ) Tryz.func120 ?_; clear HS HA HB HL; intro wt127 HS F; rw [← e_y128.out] at HS; (try simp only [hpn, hpm] at HS); obtain ⟨ad130, B130_9, d130_9, B130_10, d130_10, B130_11, d130_11, hq130, e130_0, e130_1, e130_2, e130_3, e130_4, e130_5, e130_6, e130_7, e130_8, e130_9, e130_10, e130_11, e130_12, m130_9, y130_9, m130_10, y130_10, m130_11, y130_11⟩ := at_T91 (HS.rd 0 rfl) x79 (of_eq_true c82) (of_eq_true c83); obtain rfl := Option.some.inj hq130) | ((with_reducible refine gd 93 rfl ?_); refine HS.lend_el 0 x79 rfl lens91_10_57 (of_eq_true c82) (of_eq_true c83) e130_10 (by rintro g rfl; simp only [add_plain]; refine congrArg (fun n => (⟨g, n, none⟩ : Addr)) ?_; first | rfl | omega) (fun hl => rd_T91_get hl) (fun A' HL HA HB => ?_); refine ev_lc (laws_markStringS.calls ht131.out HA) (fun _ HQ => HB _ _ _ HQ) Tryz.func121 ?_; clear HS HA HB HL; intro wt131 HS F; rw [← e_y132.out] at HS; (try simp only [hpn, hpm] at HS); obtain ⟨ad134, B134_9, d134_9, B134_10, d134_10, B134_11, d134_11, hq134, e134_0, e134_1, e134_2, e134_3, e134_4, e134_5, e134_6, e134_7, e134_8, e134_9, e134_10, e134_11, e134_12, m134_9, y134_9, m134_10, y134_10, m134_11, y134_11⟩ := at_T91 (HS.rd 0 rfl) x79 (of_eq_true c82) (of_eq_true c83); obtain rfl := Option.some.inj hq134) | ((with_reducible refine gd 100 rfl ?_); refine HS.lend_el 0 x79 rfl lens91_11_57 (of_eq_true c82) (of_eq_true c83) e134_11 (by rintro g rfl; simp only [add_plain]; refine congrArg (fun n => (⟨g, n, none⟩ : Addr)) ?_; first | rfl | omega) (fun hl => rd_T91_get hl) (fun A' HL HA HB => ?_); refine ev_lc (laws_markStringS.calls ht135.out HA) (fun _ HQ => HB _ _ _ HQ) Tryz.func121 ?_; clear HS HA HB HL; intro wt135 HS F; rw [← e_y136.out] at HS; (try simp only [hpn, hpm] at HS)) | ((with_reducible refine gd 104 rfl ?_); refine ev_cl HS (laws_markText.calls ht138.out) Tryz.func180 ?_; clear HS; intro wt138 HS F; obtain ⟨ad140, B140_9, d140_9, B140_10, d140_10, B140_11, d140_11, hq140, e140_0, e140_1, e140_2, e140_3, e140_4, e140_5, e140_6, e140_7, e140_8, e140_9, e140_10, e140_11, e140_12, m140_9, y140_9, m140_10, y140_10, m140_11, y140_11⟩ := at_T91 (HS.rd 0 rfl) x79 (of_eq_true c82) (of_eq_true c83); obtain rfl := Option.some.inj hq140) | ((with_reducible refine gate_store (p := 106) rfl ?_); refine ev_sp lens91_12_9 0 [] x79 (rd_T91 y136 x79) t138 HS (ad := ad84) (seg := [.string t138]) (of_eq_true c82) (of_eq_true c83) (fun hl => rd_T91_get hl) (made_flat (fun _ => rfl)) ?_; clear HS; intro w141 HS; rw [← e_y142.out] at HS; (try simp only [hpn, hpm] at HS)))
   go_roundg k75
   case measure => have := HKk75.out; omega
   case rel => exact ⟨_, _, _, rfl, rfl, H, ⟨by have := HKk75.out; omega⟩, HS.pick [0] (by decide) (by rfl)⟩
def laws_markRevS.l0 : Nat → (List S238) → Int → Int → (List S238) → Option (Int × (List S238))
  | 0, _, _, _, _ => none
  | k + 1, l24, x26, x27, a0 => (if x27 < (a0.length : Int) then (if 0 ≤ x27 then (if x27 < (a0.length : Int) then (lets (l24.set (x27).toNat (u238_0_3 (rd_T238 l24 x27) x26)) fun y34 => (lets (y34.set (x27).toNat (u238_1_3 (rd_T238 y34 x27) (wrap64 (x26 + 1)))) fun y38 => (laws_markRevS.l0 k y38 (wrap64 ((wrap64 (x26 + 1)) + 1)) (wrap64 (x27 + 1)) a0))) else none) else none) else (some (x26, l24)))
def laws_markRevS.f (k : Nat) (a0 : (List S238)) (a1 : Int) : Option (Int × (List S238)) := (laws_markRevS.l0 k a0 a1 0 a0)
theorem laws_markRevS.calls {k : Nat} {a0 : (List S238)} {a1 : Int} {A : FP} {vp0 : Value} {r1 : Int} {r2 : (List S238)} {w : World} (h : laws_markRevS.f k a0 a1 = some (r1, r2)) (HS : Hp A w w [.own (Zd.slice 238 q238) a0 [vp0]]) :
    Calls Tryz.prog 114 #[vp0, .int .i64 a1] w (fun e w' => e = .returned (.int .i64 r1) ∧ Hp A w w' [.own (Zd.slice 238 q238) r2 [vp0]]) := by
 obtain ⟨B1, d1, rfl, m1⟩ := HS.form 0 rfl
 have H := Aside0.mk h
 clear h
 unfold laws_markRevS.f at H
 go_enter Tryz.func114, Tryz.ntmps114
 go_wp2
 go_loopg [1, 5] k (fun kq v_1 v_5 w' => ∃ (l24 : List S238) (x26 : Int) (x27 : Int), v_1 = .int .i64 x26 ∧ v_5 = .int .i64 x27 ∧ Aside0 (laws_markRevS.l0 kq l24 x26 x27 a0 = some (r1, r2)) ∧ Aside0 (kq ≤ k) ∧ Hp A w w' [.own (Zd.slice 238 q238) l24 [.slice B1 a0.length d1]])
 case atStart => exact ⟨_, _, _, rfl, rfl, H, ⟨Nat.le_refl _⟩, HS⟩
 case round =>
  clear HS H; (try clear F)
  obtain ⟨l24, x26, x27, rfl, rfl, H, HKk23, HS⟩ := hrel
  cases gk with
  | zero => exact absurd H.out (by simp [laws_markRevS.l0])
  | succ k23 =>
   simp only [laws_markRevS.l0] at H
   replace H := znif H; rcases H with ⟨c29, H⟩ | ⟨c29, H⟩
   case inl =>
    obtain ⟨rfl, rfl⟩ := zsome2 H
    go_wp2
    go_ret
    exact ⟨rfl, HS.pick [0] (by decide) (by rfl)⟩
   replace H := zgo H; obtain ⟨c30, H⟩ := H
   replace H := zgo H; obtain ⟨c31, H⟩ := H
   obtain ⟨ad32, rfl, e32_0, e32_1⟩ := at_T238 (HS.rd 0 rfl) x27 (of_eq_true c30) (of_eq_true c31)
   replace H := zlets H; obtain ⟨y34, e_y34, H⟩ := H
   replace H := zlets H; obtain ⟨y38, e_y38, H⟩ := H
   go_wp2_with (first | ((with_reducible refine gate_store (p := 16) rfl ?_); refine ev_sp lens238_0_3 0 [] x27 (rd_T238 l24 x27) x26 HS (ad := ad32) (seg := [.int .i64 x26]) (of_eq_true c30) (of_eq_true c31) (fun hl => rd_T238_get hl) (made_flat (fun _ => rfl)) ?_; clear HS; intro w33 HS; rw [← e_y34.out] at HS; (try simp only [hpn, hpm] at HS); obtain ⟨ad36, hq36, e36_0, e36_1⟩ := at_T238 (HS.rd 0 rfl) x27 (of_eq_true c30) (of_eq_true c31); obtain rfl := Option.some.inj hq36) | ((with_reducible refine gate_store (p := 23) rfl ?_); refine ev_sp lens238_1_3 0 [] x27 (rd_T238 y34 x27) (wrap64 (x26 + 1)) HS (ad := ad32) (seg := [.int .i64 (wrap64 (x26 + 1))]) (of_eq_true c30) (of_eq_true c31) (fun hl => rd_T238_get hl) (made_flat (fun _ => rfl)) ?_; clear HS; intro w37 HS; rw [← e_y38.out] at HS; (try simp only [hpn, hpm] at HS)))
   go_roundg k23
   case measure => have := HKk23.out; omega
   case rel => exact ⟨_, _, _, rfl, rfl, H, ⟨by have := HKk23.out; omega⟩, HS.pick [0] (by decide) (by rfl)⟩
def laws_markCrlS.l0 : Nat → (List S81) → Int → Int → (List S81) → Option (Int × (List S81))
  | 0, _, _, _, _ => none
  | k + 1, l48, x50, x51, a0 => (if x51 < (a0.length : Int) then ((laws_markText.f k x50).bind fun t54 => (if 0 ≤ x51 then (if x51 < (a0.length : Int) then (lets (l48.set (x51).toNat (u81_0_9 (rd_T81 l48 x51) t54)) fun y60 => (lets (y60.set (x51).toNat (u81_1_3 (rd_T81 y60 x51) (wrap64 (x50 + 1)))) fun y64 => (lets (y64.set (x51).toNat (u81_2_3 (rd_T81 y64 x51) (wrap64 ((wrap64 (x50 + 1)) + 1)))) fun y68 => (lets (y68.set (x51).toNat (u81_3_3 (rd_T81 y68 x51) (wrap64 ((wrap64 ((wrap64 (x50 + 1)) + 1)) + 1)))) fun y72 => (lets (y72.set (x51).toNat (u81_4_3 (rd_T81 y72 x51) (wrap64 ((wrap64 ((wrap64 ((wrap64 (x50 + 1)) + 1)) + 1)) + 1)))) fun y76 => ((laws_markRevS.f k ((rd_T81 y76 x51).f5) (wrap64 ((wrap64 ((wrap64 ((wrap64 ((wrap64 (x50 + 1)) + 1)) + 1)) + 1)) + 1))).bind fun t79 => (lets (y76.set (x51).toNat (u81_5_79 (rd_T81 y76 x51) t79.2)) fun y80 => ((laws_markText.f k t79.1).bind fun t82 => (lets (y80.set (x51).toNat (u81_6_9 (rd_T81 y80 x51) t82)) fun y86 => (laws_markCrlS.l0 k y86 (wrap64 (t79.1 + 1)) (wrap64 (x51 + 1)) a0)))))))))) else none) else none)) else (some (x50, l48)))
def laws_markCrlS.f (k : Nat) (a0 : (List S81)) (a1 : Int) : Option (Int × (List S81)) := (laws_markCrlS.l0 k a0 a1 0 a0)
theorem laws_markCrlS.calls {k : Nat} {a0 : (List S81)} {a1 : Int} {A : FP} {vp0 : Value} {r1 : Int} {r2 : (List S81)} {w : World} (h : laws_markCrlS.f k a0 a1 = some (r1, r2)) (HS : Hp A w w [.own (Zd.slice 81 q81) a0 [vp0]]) :
    Calls Tryz.prog 112 #[vp0, .int .i64 a1] w (fun e w' => e = .returned (.int .i64 r1) ∧ Hp A w w' [.own (Zd.slice 81 q81) r2 [vp0]]) := by
 obtain ⟨B1, d1, rfl, m1⟩ := HS.form 0 rfl
 have H := Aside0.mk h
 clear h
 unfold laws_markCrlS.f at H
 go_enter Tryz.func112, Tryz.ntmps112
 go_wp2
 go_loopg [1, 5] k (fun kq v_1 v_5 w' => ∃ (l48 : List S81) (x50 : Int) (x51 : Int), v_1 = .int .i64 x50 ∧ v_5 = .int .i64 x51 ∧ Aside0 (laws_markCrlS.l0 kq l48 x50 x51 a0 = some (r1, r2)) ∧ Aside0 (kq ≤ k) ∧ Hp A w w' [.own (Zd.slice 81 q81) l48 [.slice B1 a0.length d1]])
 case atStart => exact ⟨_, _, _, rfl, rfl, H, ⟨Nat.le_refl _⟩, HS⟩
 case round =>
  clear HS H; (try clear F)
  obtain ⟨l48, x50, x51, rfl, rfl, H, HKk47, HS⟩ := hrel
  cases gk with
  | zero => exact absurd H.out (by simp [laws_markCrlS.l0])
  | succ k47 =>
   simp only [laws_markCrlS.l0] at H
   replace H := znif H; rcases H with ⟨c53, H⟩ | ⟨c53, H⟩
   case inl =>
    obtain ⟨rfl, rfl⟩ := zsome2 H
    go_wp2
    go_ret
    exact ⟨rfl, HS.pick [0] (by decide) (by rfl)⟩
   replace H := zbind H; obtain ⟨t54, ht54, H⟩ := H
   replace H := zgo H; obtain ⟨c56, H⟩ := H
   replace H := zgo H; obtain ⟨c57, H⟩ := H
   replace H := zlets H; obtain ⟨y60, e_y60, H⟩ := H
   replace H := zlets H; obtain ⟨y64, e_y64, H⟩ := H
   replace H := zlets H; obtain ⟨y68, e_y68, H⟩ := H
   replace H := zlets H; obtain ⟨y72, e_y72, H⟩ := H
   replace H := zlets H; obtain ⟨y76, e_y76, H⟩ := H
   replace H := zbind H; obtain ⟨t79, ht79, H⟩ := H
   replace H := zlets H; obtain ⟨y80, e_y80, H⟩ := H
   replace H := zbind H; obtain ⟨t82, ht82, H⟩ := H
   replace H := zlets H; obtain ⟨y86, e_y86, H⟩ := H
   go_wp2_with (first | ((with_reducible refine gd 15 rfl ?_); refine ev_cl HS (laws_markText.calls ht54.out) Tryz.func180 ?_; clear HS; intro wt54 HS F; obtain ⟨ad58, B58_5, d58_5, rfl, e58_0, e58_1, e58_2, e58_3, e58_4, e58_5, e58_6, m58_5, y58_5⟩ := at_T81 (HS.rd 0 rfl) x51 (of_eq_true c56) (of_eq_true c57)) | ((with_reducible refine gate_store (p := 17) rfl ?_); refine ev_sp lens81_0_9 0 [] x51 (rd_T81 l48 x51) t54 HS (ad := ad58) (seg := [.string t54]) (of_eq_true c56) (of_eq_true c57) (fun hl => rd_T81_get hl) (made_flat (fun _ => rfl)) ?_; clear HS; intro w59 HS; rw [← e_y60.out] at HS; (try simp only [hpn, hpm] at HS); obtain ⟨ad62, B62_5, d62_5, hq62, e62_0, e62_1, e62_2, e62_3, e62_4, e62_5, e62_6, m62_5, y62_5⟩ := at_T81 (HS.rd 0 rfl) x51 (of_eq_true c56) (of_eq_true c57); obtain rfl := Option.some.inj hq62) | ((with_reducible refine gate_store (p := 24) rfl ?_); refine ev_sp lens81_1_3 0 [] x51 (rd_T81 y60 x51) (wrap64 (x50 + 1)) HS (ad := ad58) (seg := [.int .i64 (wrap64 (x50 + 1))]) (of_eq_true c56) (of_eq_true c57) (fun hl => rd_T81_get hl) (made_flat (fun _ => rfl)) ?_; clear HS; intro w63 HS; rw [← e_y64.out] at HS; (try simp only [hpn, hpm] at HS); obtain ⟨ad66, B66_5, d66_5, hq66, e66_0, e66_1, e66_2, e66_3, e66_4, e66_5, e66_6, m66_5, y66_5⟩ := at_T81 (HS.rd 0 rfl) x51 (of_eq_true c56) (of_eq_true c57); obtain rfl := Option.some.inj hq66) | ((with_reducible refine gate_store (p := 31) rfl ?_); refine ev_sp lens81_2_3 0 [] x51 (rd_T81 y64 x51) (wrap64 ((wrap64 (x50 + 1)) + 1)) HS (ad := ad58) (seg := [.int .i64 (wrap64 ((wrap64 (x50 + 1)) + 1))]) (of_eq_true c56) (of_eq_true c57) (fun hl => rd_T81_get hl) (made_flat (fun _ => rfl)) ?_; clear HS; intro w67 HS; rw [← e_y68.out] at HS; (try simp only [hpn, hpm] at HS); obtain ⟨ad70, B70_5, d70_5, hq70, e70_0, e70_1, e70_2, e70_3, e70_4, e70_5, e70_6, m70_5, y70_5⟩ := at_T81 (HS.rd 0 rfl) x51 (of_eq_true c56) (of_eq_true c57); obtain rfl := Option.some.inj hq70) | ((with_reducible refine gate_store (p := 38) rfl ?_); refine ev_sp lens81_3_3 0 [] x51 (rd_T81 y68 x51) (wrap64 ((wrap64 ((wrap64 (x50 + 1)) + 1)) + 1)) HS (ad := ad58) (seg := [.int .i64 (wrap64 ((wrap64 ((wrap64 (x50 + 1)) + 1)) + 1))]) (of_eq_true c56) (of_eq_true c57) (fun hl => rd_T81_get hl) (made_flat (fun _ => rfl)) ?_; clear HS; intro w71 HS; rw [← e_y72.out] at HS; (try simp only [hpn, hpm] at HS); obtain ⟨ad74, B74_5, d74_5, hq74, e74_0, e74_1, e74_2, e74_3, e74_4, e74_5, e74_6, m74_5, y74_5⟩ := at_T81 (HS.rd 0 rfl) x51 (of_eq_true c56) (of_eq_true c57); obtain rfl := Option.some.inj hq74) | ((with_reducible refine gate_store (p := 45) rfl ?_); refine ev_sp lens81_4_3 0 [] x51 (rd_T81 y72 x51) (wrap64 ((wrap64 ((wrap64 ((wrap64 (x50 + 1)) + 1)) + 1)) + 1)) HS (ad := ad58) (seg := [.int .i64 (wrap64 ((wrap64 ((wrap64 ((wrap64 (x50 + 1)) + 1)) + 1)) + 1))]) (of_eq_true c56) (of_eq_true c57) (fun hl => rd_T81_get hl) (made_flat (fun _ => rfl)) ?_; clear HS; intro w75 HS; rw [← e_y76.out] at HS; (try simp only [hpn, hpm] at HS); obtain ⟨ad78, B78_5, d78_5, hq78, e78_0, e78_1, e78_2, e78_3, e78_4, e78_5, e78_6, m78_5, y78_5⟩ := at_T81 (HS.rd 0 rfl) x51 (of_eq_true c56) (of_eq_true c57); obtain rfl := Option.some.inj hq78) | ((with_reducible refine gd 54 rfl ?_); refine HS.lend_el 0 x51 rfl lens81_5_79 (of_eq_true c56) (of_eq_true c57) e78_5 (by rintro g rfl; simp only [add_plain]; refine congrArg (fun n => (⟨g, n, none⟩ : Addr)) ?_; first | rfl | omega) (fun hl => rd_T81_get hl) (fun A' HL HA HB => ?_); refine ev_lc (laws_markRevS.calls ht79.out HA) (fun _ HQ => HB _ _ _ HQ) Tryz.func114 ?_; clear HS HA HB HL; intro wt79 HS F; rw [← e_y80.out] at HS; (try simp only [hpn, hpm] at HS)) | ((with_reducible refine gd 58 rfl ?_); refine ev_cl HS (laws_markText.calls ht82.out) Tryz.func180 ?_; clear HS; intro wt82 HS F; obtain ⟨ad84, B84_5, d84_5, hq84, e84_0, e84_1, e84_2, e84_3, e84_4, e84_5, e84_6, m84_5, y84_5⟩ := at_T81 (HS.rd 0 rfl) x51 (of_eq_true c56) (of_eq_true c57); obtain rfl := Option.some.inj hq84) | ((with_reducible refine gate_store (p := 60) rfl ?_); refine ev_sp lens81_6_9 0 [] x51 (rd_T81 y80 x51) t82 HS (ad := ad58) (seg := [.string t82]) (of_eq_true c56) (of_eq_true c57) (fun hl => rd_T81_get hl) (made_flat (fun _ => rfl)) ?_; clear HS; intro w85 HS; rw [← e_y86.out] at HS; (try simp only [hpn, hpm] at HS)))
   go_roundg k47
   case measure => have := HKk47.out; omega
   case rel => exact ⟨_, _, _, rfl, rfl, H, ⟨by have := HKk47.out; omega⟩, HS.pick [0] (by decide) (by rfl)⟩
def laws_markAnchorS.l0 : Nat → (List S115) → Int → Int → (List S115) → Option (Int × (List S115))
  | 0, _, _, _, _ => none
  | k + 1, l28, x30, x31, a0 => (if x31 < (a0.length : Int) then ((laws_markText.f k x30).bind fun t34 => (if 0 ≤ x31 then (if x31 < (a0.length : Int) then (lets (l28.set (x31).toNat (u115_0_9 (rd_T115 l28 x31) t34)) fun y40 => ((laws_markText.f k (wrap64 (x30 + 1))).bind fun t42 => (lets (y40.set (x31).toNat (u115_1_9 (rd_T115 y40 x31) t42)) fun y46 => (laws_markAnchorS.l0 k y46 (wrap64 ((wrap64 (x30 + 1)) + 1)) (wrap64 (x31 + 1)) a0)))) else none) else none)) else (some (x30, l28)))
def laws_markAnchorS.f (k : Nat) (a0 : (List S115)) (a1 : Int) : Option (Int × (List S115)) := (laws_markAnchorS.l0 k a0 a1 0 a0)
theorem laws_markAnchorS.calls {k : Nat} {a0 : (List S115)} {a1 : Int} {A : FP} {vp0 : Value} {r1 : Int} {r2 : (List S115)} {w : World} (h : laws_markAnchorS.f k a0 a1 = some (r1, r2)) (HS : Hp A w w [.own (Zd.slice 115 q115) a0 [vp0]]) :
    Calls Tryz.prog 113 #[vp0, .int .i64 a1] w (fun e w' => e = .returned (.int .i64 r1) ∧ Hp A w w' [.own (Zd.slice 115 q115) r2 [vp0]]) := by
 obtain ⟨B1, d1, rfl, m1⟩ := HS.form 0 rfl
 have H := Aside0.mk h
 clear h
 unfold laws_markAnchorS.f at H
 go_enter Tryz.func113, Tryz.ntmps113
 go_wp2
 go_loopg [1, 5] k (fun kq v_1 v_5 w' => ∃ (l28 : List S115) (x30 : Int) (x31 : Int), v_1 = .int .i64 x30 ∧ v_5 = .int .i64 x31 ∧ Aside0 (laws_markAnchorS.l0 kq l28 x30 x31 a0 = some (r1, r2)) ∧ Aside0 (kq ≤ k) ∧ Hp A w w' [.own (Zd.slice 115 q115) l28 [.slice B1 a0.length d1]])
 case atStart => exact ⟨_, _, _, rfl, rfl, H, ⟨Nat.le_refl _⟩, HS⟩
 case round =>
  clear HS H; (try clear F)
  obtain ⟨l28, x30, x31, rfl, rfl, H, HKk27, HS⟩ := hrel
  cases gk with
  | zero => exact absurd H.out (by simp [laws_markAnchorS.l0])
  | succ k27 =>
   simp only [laws_markAnchorS.l0] at H
   replace H := znif H; rcases H with ⟨c33, H⟩ | ⟨c33, H⟩
   case inl =>
    obtain ⟨rfl, rfl⟩ := zsome2 H
    go_wp2
    go_ret
    exact ⟨rfl, HS.pick [0] (by decide) (by rfl)⟩
   replace H := zbind H; obtain ⟨t34, ht34, H⟩ := H
   replace H := zgo H; obtain ⟨c36, H⟩ := H
   replace H := zgo H; obtain ⟨c37, H⟩ := H
   replace H := zlets H; obtain ⟨y40, e_y40, H⟩ := H
   replace H := zbind H; obtain ⟨t42, ht42, H⟩ := H
   replace H := zlets H; obtain ⟨y46, e_y46, H⟩ := H
   go_wp2_with (first | ((with_reducible refine gd 15 rfl ?_); refine ev_cl HS (laws_markText.calls ht34.out) Tryz.func180 ?_; clear HS; intro wt34 HS F; obtain ⟨ad38, rfl, e38_0, e38_1⟩ := at_T115 (HS.rd 0 rfl) x31 (of_eq_true c36) (of_eq_true c37)) | ((with_reducible refine gate_store (p := 17) rfl ?_); refine ev_sp lens115_0_9 0 [] x31 (rd_T115 l28 x31) t34 HS (ad := ad38) (seg := [.string t34]) (of_eq_true c36) (of_eq_true c37) (fun hl => rd_T115_get hl) (made_flat (fun _ => rfl)) ?_; clear HS; intro w39 HS; rw [← e_y40.out] at HS; (try simp only [hpn, hpm] at HS)) | ((with_reducible refine gd 23 rfl ?_); refine ev_cl HS (laws_markText.calls ht42.out) Tryz.func180 ?_; clear HS; intro wt42 HS F; obtain ⟨ad44, hq44, e44_0, e44_1⟩ := at_T115 (HS.rd 0 rfl) x31 (of_eq_true c36) (of_eq_true c37); obtain rfl := Option.some.inj hq44) | ((with_reducible refine gate_store (p := 25) rfl ?_); refine ev_sp lens115_1_9 0 [] x31 (rd_T115 y40 x31) t42 HS (ad := ad38) (seg := [.string t42]) (of_eq_true c36) (of_eq_true c37) (fun hl => rd_T115_get hl) (made_flat (fun _ => rfl)) ?_; clear HS; intro w45 HS; rw [← e_y46.out] at HS; (try simp only [hpn, hpm] at HS)))
   go_roundg k27
   case measure => have := HKk27.out; omega
   case rel => exact ⟨_, _, _, rfl, rfl, H, ⟨by have := HKk27.out; omega⟩, HS.pick [0] (by decide) (by rfl)⟩
def laws_markStore.f (k : Nat) (a0 : S33) (a1 : Int) : Option (Int × (List S91) × (List S81) × (List S115)) := ((laws_markCertS.f k a0.f0 a1).bind fun t6 => ((laws_markCrlS.f k a0.f1 t6.1).bind fun t8 => ((laws_markAnchorS.f k a0.f2 t8.1).bind fun t10 => (some (t10.1, t6.2, t8.2, t10.2)))))
theorem laws_markStore.calls {k : Nat} {a0 : S33} {a1 : Int} {A : FP} {vp0 : Value} {vp1 : Value} {vp2 : Value} {r1 : Int} {r2 : (List S91)} {r3 : (List S81)} {r4 : (List S115)} {w : World} (h : laws_markStore.f k a0 a1 = some (r1, r2, r3, r4)) (HS : Hp A w w [.own (Zd.slice 91 q91) a0.f0 [vp0], .own (Zd.slice 81 q81) a0.f1 [vp1], .own (Zd.slice 115 q115) a0.f2 [vp2]]) :
    Calls Tryz.prog 31 #[.agg #[vp0, vp1, vp2], .int .i64 a1] w (fun e w' => e = .returned (.int .i64 r1) ∧ Hp A w w' [.own (Zd.slice 91 q91) r2 [vp0], .own (Zd.slice 81 q81) r3 [vp1], .own (Zd.slice 115 q115) r4 [vp2]]) := by
 obtain ⟨B1, d1, rfl, m1⟩ := HS.form 0 rfl
 obtain ⟨B2, d2, rfl, m2⟩ := HS.form 1 rfl
 obtain ⟨B3, d3, rfl, m3⟩ := HS.form 2 rfl
 have H := Aside0.mk h
 clear h
 unfold laws_markStore.f at H
 go_enter Tryz.func31, Tryz.ntmps31
 replace H := zbind H; obtain ⟨t6, ht6, H⟩ := H
 replace H := zbind H; obtain ⟨t8, ht8, H⟩ := H
 replace H := zbind H; obtain ⟨t10, ht10, H⟩ := H
 have H := zsome H; simp only [Prod.mk.injEq] at H; obtain ⟨rfl, rfl, rfl, rfl⟩ := H
 go_wp2_with (first | ((with_reducible refine gd 2 rfl ?_); refine ev_bx HS ?_; clear HS; intro g2 w2 HS F) | ((with_reducible refine gd 8 rfl ?_); refine HS.lend [0] (by decide) [.own (Zd.slice 91 q91) a0.f0 [.slice B1 a0.f0.length d1]] rfl (fun A' HL HD HA HB => ?_); refine ev_lc (laws_markCertS.calls ht6.out HA) (fun _ HQ => HB _ _ HQ (Nat.le_of_ble_eq_true rfl)) Tryz.func111 ?_; clear HS HA HB HL HD; intro wt6 HS F) | ((with_reducible refine gd 12 rfl ?_); refine HS.lend [1] (by decide) [.own (Zd.slice 81 q81) a0.f1 [.slice B2 a0.f1.length d2]] rfl (fun A' HL HD HA HB => ?_); refine ev_lc (laws_markCrlS.calls ht8.out HA) (fun _ HQ => HB _ _ HQ (Nat.le_of_ble_eq_true rfl)) Tryz.func112 ?_; clear HS HA HB HL HD; intro wt8 HS F) | ((with_reducible refine gd 16 rfl ?_); refine HS.lend [2] (by decide) [.own (Zd.slice 115 q115) a0.f2 [.slice B3 a0.f2.length d3]] rfl (fun A' HL HD HA HB => ?_); refine ev_lc (laws_markAnchorS.calls ht10.out HA) (fun _ HQ => HB _ _ HQ (Nat.le_of_ble_eq_true rfl)) Tryz.func113 ?_; clear HS HA HB HL HD; intro wt10 HS F))
 go_ret
 exact ⟨rfl, HS.pick [0, 1, 2] (by decide) (by rfl)⟩
def laws_heldIntS.l0 : Nat → Int → Int → (List Int) → Option (Int)
  | 0, _, _, _ => none
  | k + 1, x11, x12, a0 => (if x12 < (a0.length : Int) then (if 0 ≤ x12 then (if x12 < (a0.length : Int) then (if (rd a0 x12) = x11 then (laws_heldIntS.l0 k (wrap64 (x11 + 1)) (wrap64 (x12 + 1)) a0) else (some (-1))) else none) else none) else (some x11))
def laws_heldIntS.f (k : Nat) (a0 : (List Int)) (a1 : Int) : Option (Int) := (laws_heldIntS.l0 k a1 0 a0)
theorem laws_heldIntS.calls {k : Nat} {a0 : (List Int)} {a1 : Int} {Ap0 : Option Addr} {np0 cp0 : Nat} {r : Int} {w : World} (h : laws_heldIntS.f k a0 a1 = some r) (gp0 : (Kd.int .i64).C w Ap0 np0 a0) (lp0 : np0 ≤ cp0) :
    Calls Tryz.prog 181 #[.slice Ap0 np0 cp0, .int .i64 a1] w (fun e w' => e = .returned (.int .i64 r) ∧ Hp noFP w w' []) := by
 obtain rfl := C_len gp0
 have HS := Hp.start w
 have H := Aside0.mk h
 clear h
 unfold laws_heldIntS.f at H
 go_enter Tryz.func181, Tryz.ntmps181
 go_wp2
 go_loopg [1, 5] k (fun kq v_1 v_5 w' => ∃ (x11 : Int) (x12 : Int), v_1 = .int .i64 x11 ∧ v_5 = .int .i64 x12 ∧ Aside0 (laws_heldIntS.l0 kq x11 x12 a0 = some r) ∧ Aside0 (kq ≤ k) ∧ Hp noFP w w' [])
 case atStart => exact ⟨_, _, rfl, rfl, H, ⟨Nat.le_refl _⟩, HS⟩
 case round =>
  clear HS H; (try clear F)
  obtain ⟨x11, x12, rfl, rfl, H, HKk10, HS⟩ := hrel
  cases gk with
  | zero => exact absurd H.out (by simp [laws_heldIntS.l0])
  | succ k10 =>
   simp only [laws_heldIntS.l0] at H
   replace H := znif H; rcases H with ⟨c14, H⟩ | ⟨c14, H⟩
   case inl =>
    obtain rfl := zsome H
    go_wp2
    go_ret
    exact HS.pk
   replace H := zgo H; obtain ⟨c15, H⟩ := H
   replace H := zgo H; obtain ⟨c16, H⟩ := H
   obtain ⟨ad17, rfl, e17_0⟩ := Kd.at_int gp0 x12 (of_eq_true c15) (of_eq_true c16)
   have e17_0_17 := HS.keepc e17_0
   replace H := znif' H; rcases H with ⟨c18, H⟩ | ⟨c18, H⟩
   case inl =>
    have c18a := beq_eq_false_iff_ne.mpr c18
    have c18b := bne_iff_ne.mpr c18
    clear c18
    obtain rfl := zsome H
    go_wp2
    go_ret
    exact HS.pk
   have c18a := beq_iff_eq.mpr c18
   have c18b := bne_eq_false_iff_eq.mpr c18
   clear c18
   go_wp2
   go_roundg k10
   case measure => have := HKk10.out; omega
   case rel => exact ⟨_, _, rfl, rfl, H, ⟨by have := HKk10.out; omega⟩, HS.pick [] (by decide) (by rfl)⟩
def laws_heldStringS.l0 : Nat → Int → Int → (List ByteArray) → Option (Int)
  | 0, _, _, _ => none
  | k + 1, x9, x10, a0 => (if x10 < (a0.length : Int) then (if 0 ≤ x10 then (if x10 < (a0.length : Int) then ((laws_markText.f k x9).bind fun t11 => (if (rdOf ByteArray.empty a0 x10).toList = t11.toList then (laws_heldStringS.l0 k (wrap64 (x9 + 1)) (wrap64 (x10 + 1)) a0) else (some (-1)))) else none) else none) else (some x9))
def laws_heldStringS.f (k : Nat) (a0 : (List ByteArray)) (a1 : Int) : Option (Int) := (laws_heldStringS.l0 k a1 0 a0)
def laws_heldStringS.T4 : TT := (true, [([], []), ([], []), ([0, 1], [0, 1]), ([2], [2]), ([], []), ([4], [4]), ([3, 5], [3, 5])])
theorem laws_heldStringS.tT4 : rtab .any (opsOf Tryz.f182 4) = laws_heldStringS.T4 := by kernel_rfl
theorem laws_heldStringS.calls {k : Nat} {a0 : (List ByteArray)} {a1 : Int} {Ap0 : Option Addr} {np0 cp0 : Nat} {r : Int} {w : World} (h : laws_heldStringS.f k a0 a1 = some r) (gp0 : Kd.string.C w Ap0 np0 a0) (lp0 : np0 ≤ cp0) :
    Calls Tryz.prog 182 #[.slice Ap0 np0 cp0, .int .i64 a1] w (fun e w' => e = .returned (.int .i64 r) ∧ Hp noFP w w' []) := by
 obtain rfl := C_len gp0
 have HS := Hp.start w
 have H := Aside0.mk h
 clear h
 unfold laws_heldStringS.f at H
 go_enter Tryz.func182, Tryz.ntmps182
 go_wp2
 go_loopg [1, 5] k (fun kq v_1 v_5 w' => ∃ (x9 : Int) (x10 : Int), v_1 = .int .i64 x9 ∧ v_5 = .int .i64 x10 ∧ Aside0 (laws_heldStringS.l0 kq x9 x10 a0 = some r) ∧ Aside0 (kq ≤ k) ∧ Hp noFP w w' [])
 case atStart => exact ⟨_, _, rfl, rfl, H, ⟨Nat.le_refl _⟩, HS⟩
 case round =>
  clear HS H; (try clear F)
  obtain ⟨x9, x10, rfl, rfl, H, HKk8, HS⟩ := hrel
  cases gk with
  | zero => exact absurd H.out (by simp [laws_heldStringS.l0])
  | succ k8 =>
   simp only [laws_heldStringS.l0] at H
   replace H := znif H; rcases H with ⟨c12, H⟩ | ⟨c12, H⟩
   case inl =>
    obtain rfl := zsome H
    go_wp2
    go_ret
    exact HS.pk
   (try go_wp2)
   replace H := zgo H; obtain ⟨c3, H⟩ := H
   replace H := zgo H; obtain ⟨c6, H⟩ := H
   obtain ⟨ad7, rfl, e7_0⟩ := Kd.at_string gp0 x10 (of_eq_true c3) (of_eq_true c6)
   replace H := zbind H; obtain ⟨t11, ht11, H⟩ := H
   refine dr_start [] HS #[false, false, false, false, false, false, false] (by kernel_rfl) rfl rfl laws_heldStringS.tT4 (fun w14 HT HS HH => ?_)
   (try clear F)
   refine drq_of [(0, some 12), (1, some 13), (2, some 14)] ?_
   repeat (refine drp HT ?_)
   refine drq_end ?_
   refine dr_take 3 (some 15) HT HH (v := ?_) (a' := ?_) rfl rfl (by kernel_rfl) (fun _ _ _ h => h) (.inl ⟨by rfl, ?_⟩) ?_ ?_
   rotate_left
   · rintro w' ⟨rs', HS'⟩; have e7_0 := HS'.keepc e7_0; go_simp; with_reducible rfl
   rotate_left
   · simp only [Act.put, ptn]; rfl
   refine drq_of [(4, some 16)] ?_
   repeat (refine drp HT ?_)
   refine drq_end ?_
   refine dr1 5 HT fun K hK => ?_
   refine go_cl HS (laws_markText.calls ht11.out) Tryz.func180 ?_; clear HS; intro wt11 HS F
   refine nrm 17 hK ⟨_, HS⟩ (fun HH => ?_); clear hK K
   refine drq_of [(6, some 18)] ?_
   repeat (refine drp HT ?_)
   refine drq_end ?_
   refine done_ (done_of HT.out (by kernel_rfl)) ?_
   replace H := znif' H; rcases H with ⟨c16, H⟩ | ⟨c16, H⟩
   case inl =>
    have c16a := beq_eq_false_iff_ne.mpr c16
    have c16b := bne_iff_ne.mpr c16
    clear c16
    (try simp only [c16a, c16b, dcn])
    obtain rfl := zsome H
    go_wp2
    go_ret
    exact HS.pk
   have c16a := beq_iff_eq.mpr c16
   have c16b := bne_eq_false_iff_eq.mpr c16
   clear c16
   (try simp only [c16a, c16b, dcn])
   go_wp2
   go_roundg k8
   case measure => have := HKk8.out; omega
   case rel => exact ⟨_, _, rfl, rfl, H, ⟨by have := HKk8.out; omega⟩, HS.pick [] (by decide) (by rfl)⟩
end Go.Proofs.YtacocpknielofaaGreatDoor.F
