/- Functions of the program and of the law, and that their calls do what is written here. -/
import Derived.Test.YtfcpjeeeddjakaaGreatZgFnAsksc
import Derived.Test.YtfcpjeeeddjakaaGreatZgFnAsksd
namespace Go.Proofs.YtfcpjeeeddjakaaGreat.F
open Go.RowKit YtfcpjeeeddjakaaGreatW.PrintWords YtfcpjeeeddjakaaGreatW.PrintLast YtfcpjeeeddjakaaGreatW.PrintMore Z
attribute [local go_sem] max2_int min2_int max_two min_two max_three min_three max_four min_four
set_option linter.unusedVariables false
set_option linter.unusedSimpArgs false
set_option maxRecDepth 100000
set_option maxHeartbeats 16000000
def spec_ReadItem.f (k : Nat) (a0 : ByteArray) : Option (S66 × Bool) := (if 4000 < (a0.size : Int) then (some ((⟨0, (⟨#[]⟩ : ByteArray), ([] : List S66)⟩ : S66), false)) else ((spec_l07Read.f k a0 0 0).bind fun t6 => ((spec_ItemText.f k t6.1).bind fun t13 => (if t6.2.2 = true then (if t6.2.1 = (a0.size : Int) then (if t13.2 = true then (if t13.1.toList = a0.toList then (some ((⟨t6.1.f0, t6.1.f1, t6.1.f2⟩ : S66), true)) else (some ((⟨0, (⟨#[]⟩ : ByteArray), ([] : List S66)⟩ : S66), false))) else (some ((⟨0, (⟨#[]⟩ : ByteArray), ([] : List S66)⟩ : S66), false))) else (some ((⟨0, (⟨#[]⟩ : ByteArray), ([] : List S66)⟩ : S66), false))) else (some ((⟨0, (⟨#[]⟩ : ByteArray), ([] : List S66)⟩ : S66), false))))))
theorem spec_ReadItem.calls {k : Nat} {a0 : ByteArray} {r1 : S66} {r2 : Bool} {w : World} (h : spec_ReadItem.f k a0 = some (r1, r2)) :
    Calls Tryz.prog 47 #[.string a0] w (fun e w' => ∃ v0_ : Value, e = .returned (.tuple #[.agg #[.int .i64 r1.f0, .string r1.f1, v0_], .bool r2]) ∧ Hp noFP w w' [.own (Zd.slice 66 q66) r1.f2 [v0_]]) := by
 have HS := Hp.start w
 have H := Aside0.mk h
 clear h
 unfold spec_ReadItem.f at H
 go_enter Tryz.func47, Tryz.ntmps47
 go_upto_if 11 with ((with_reducible refine gd 2 rfl ?_); refine ev_bx HS ?_; clear HS; intro g2 w2 HS F)
 replace H := zif H; rcases H with ⟨c3, H⟩ | ⟨c3, H⟩
 case inl =>
  (try simp only [c3, dcn])
  obtain ⟨rfl, rfl⟩ := zsome2 H
  go_wp2_with ((with_reducible refine gate_store (p := 2) rfl ?_); refine ev_st 0 0 HS (seg := [.int .i64 0, .string (⟨#[]⟩ : ByteArray), .slice none 0 0]) ?_; clear HS; intro w4 HS F)
  replace HS := HS.nil 66 q66
  exact bodyPost_ret (results_list (rs := [.cell 2 66, .tmp 3]) rfl (by simp) (.cell _ _ _ _ _ rfl (HS.boxAt (i := 0) rfl) Tryz.underlying66 rfl (by kernel_rfl) (.tmp .nil))) rfl ⟨_, rfl, HS.pick [1] (by decide) (by rfl)⟩
 (try simp only [c3, dcn])
 replace H := zbind H; obtain ⟨t6, ht6, H⟩ := H
 replace H := zbind H; obtain ⟨t13, ht13, H⟩ := H
 replace H := znifb H; rcases H with ⟨c15, H⟩ | ⟨c15, H⟩
 case inl =>
  obtain ⟨rfl, rfl⟩ := zsome2 H
  go_wp2_with (first | ((with_reducible refine gd 15 rfl ?_); refine ev_cl1 HS (spec_l07Read.calls ht6.out) Tryz.func81 ?_; clear HS; intro v7 wt6 HS F; obtain ⟨B7, d7, rfl, m7⟩ := HS.form 1 rfl) | ((with_reducible refine gd 4 rfl ?_); refine ev_bx HS ?_; clear HS; intro g4 w4 HS F) | ((with_reducible refine gate_store (p := 4) rfl ?_); refine ev_st 2 0 HS (seg := [.int .i64 t6.1.f0, .string t6.1.f1, .slice B7 t6.1.f2.length d7]) ?_; clear HS; intro w11 HS F) | ((with_reducible refine gd 21 rfl ?_); refine ev_cl HS (spec_ItemText.calls ht13.out (HS.rd 1 rfl) m7) Tryz.func36 ?_; clear HS; intro wt13 HS F; (try simp only [c15])) | ((with_reducible refine gate_store (p := 2) rfl ?_); refine ev_st 0 0 HS (seg := [.int .i64 0, .string (⟨#[]⟩ : ByteArray), .slice none 0 0]) ?_; clear HS; intro w27 HS F))
  replace HS := HS.nil 66 q66
  exact bodyPost_ret (results_list (rs := [.cell 2 66, .tmp 3]) rfl (by simp) (.cell _ _ _ _ _ rfl (HS.boxAt (i := 0) rfl) Tryz.underlying66 rfl (by kernel_rfl) (.tmp .nil))) rfl ⟨_, rfl, HS.pick [3] (by decide) (by rfl)⟩
 replace H := znif' H; rcases H with ⟨c16, H⟩ | ⟨c16, H⟩
 case inl =>
  have c16a := beq_eq_false_iff_ne.mpr c16
  have c16b := bne_iff_ne.mpr c16
  clear c16
  obtain ⟨rfl, rfl⟩ := zsome2 H
  go_wp2_with (first | ((with_reducible refine gd 15 rfl ?_); refine ev_cl1 HS (spec_l07Read.calls ht6.out) Tryz.func81 ?_; clear HS; intro v7 wt6 HS F; obtain ⟨B7, d7, rfl, m7⟩ := HS.form 1 rfl) | ((with_reducible refine gd 4 rfl ?_); refine ev_bx HS ?_; clear HS; intro g4 w4 HS F) | ((with_reducible refine gate_store (p := 4) rfl ?_); refine ev_st 2 0 HS (seg := [.int .i64 t6.1.f0, .string t6.1.f1, .slice B7 t6.1.f2.length d7]) ?_; clear HS; intro w11 HS F) | ((with_reducible refine gd 21 rfl ?_); refine ev_cl HS (spec_ItemText.calls ht13.out (HS.rd 1 rfl) m7) Tryz.func36 ?_; clear HS; intro wt13 HS F; (try simp only [c15])) | ((with_reducible refine gate_store (p := 2) rfl ?_); refine ev_st 0 0 HS (seg := [.int .i64 0, .string (⟨#[]⟩ : ByteArray), .slice none 0 0]) ?_; clear HS; intro w25 HS F))
  replace HS := HS.nil 66 q66
  exact bodyPost_ret (results_list (rs := [.cell 2 66, .tmp 3]) rfl (by simp) (.cell _ _ _ _ _ rfl (HS.boxAt (i := 0) rfl) Tryz.underlying66 rfl (by kernel_rfl) (.tmp .nil))) rfl ⟨_, rfl, HS.pick [3] (by decide) (by rfl)⟩
 have c16a := beq_iff_eq.mpr c16
 have c16b := bne_eq_false_iff_eq.mpr c16
 clear c16
 replace H := znifb H; rcases H with ⟨c17, H⟩ | ⟨c17, H⟩
 case inl =>
  obtain ⟨rfl, rfl⟩ := zsome2 H
  go_wp2_with (first | ((with_reducible refine gd 15 rfl ?_); refine ev_cl1 HS (spec_l07Read.calls ht6.out) Tryz.func81 ?_; clear HS; intro v7 wt6 HS F; obtain ⟨B7, d7, rfl, m7⟩ := HS.form 1 rfl) | ((with_reducible refine gd 4 rfl ?_); refine ev_bx HS ?_; clear HS; intro g4 w4 HS F) | ((with_reducible refine gate_store (p := 4) rfl ?_); refine ev_st 2 0 HS (seg := [.int .i64 t6.1.f0, .string t6.1.f1, .slice B7 t6.1.f2.length d7]) ?_; clear HS; intro w11 HS F) | ((with_reducible refine gd 21 rfl ?_); refine ev_cl HS (spec_ItemText.calls ht13.out (HS.rd 1 rfl) m7) Tryz.func36 ?_; clear HS; intro wt13 HS F; (try simp only [c15]); (try simp only [c17])) | ((with_reducible refine gate_store (p := 2) rfl ?_); refine ev_st 0 0 HS (seg := [.int .i64 0, .string (⟨#[]⟩ : ByteArray), .slice none 0 0]) ?_; clear HS; intro w23 HS F))
  replace HS := HS.nil 66 q66
  exact bodyPost_ret (results_list (rs := [.cell 2 66, .tmp 3]) rfl (by simp) (.cell _ _ _ _ _ rfl (HS.boxAt (i := 0) rfl) Tryz.underlying66 rfl (by kernel_rfl) (.tmp .nil))) rfl ⟨_, rfl, HS.pick [3] (by decide) (by rfl)⟩
 go_upto_if 40 with (first | ((with_reducible refine gd 15 rfl ?_); refine ev_cl1 HS (spec_l07Read.calls ht6.out) Tryz.func81 ?_; clear HS; intro v7 wt6 HS F; obtain ⟨B7, d7, rfl, m7⟩ := HS.form 1 rfl) | ((with_reducible refine gd 4 rfl ?_); refine ev_bx HS ?_; clear HS; intro g4 w4 HS F) | ((with_reducible refine gate_store (p := 4) rfl ?_); refine ev_st 2 0 HS (seg := [.int .i64 t6.1.f0, .string t6.1.f1, .slice B7 t6.1.f2.length d7]) ?_; clear HS; intro w11 HS F) | ((with_reducible refine gd 21 rfl ?_); refine ev_cl HS (spec_ItemText.calls ht13.out (HS.rd 1 rfl) m7) Tryz.func36 ?_; clear HS; intro wt13 HS F; (try simp only [c15]); (try simp only [c17])))
 replace H := zif' H; rcases H with ⟨c18, H⟩ | ⟨c18, H⟩
 case inl =>
  have c18a := beq_iff_eq.mpr c18
  have c18b := bne_eq_false_iff_eq.mpr c18
  clear c18
  (try simp only [c18a, c18b, dcn])
  obtain ⟨rfl, rfl⟩ := zsome2 H
  go_wp2_with ((with_reducible refine gate_store (p := 2) rfl ?_); refine ev_st 0 0 HS (seg := [.int .i64 t6.1.f0, .string t6.1.f1, .slice B7 t6.1.f2.length d7]) ?_; clear HS; intro w19 HS F)
  exact bodyPost_ret (results_list (rs := [.cell 2 66, .tmp 3]) rfl (by simp) (.cell _ _ _ _ _ rfl (HS.boxAt (i := 0) rfl) Tryz.underlying66 rfl (by kernel_rfl) (.tmp .nil))) rfl ⟨_, rfl, HS.pick [1] (by decide) (by rfl)⟩
 have c18a := beq_eq_false_iff_ne.mpr c18
 have c18b := bne_iff_ne.mpr c18
 clear c18
 (try simp only [c18a, c18b, dcn])
 obtain ⟨rfl, rfl⟩ := zsome2 H
 go_wp2_with ((with_reducible refine gate_store (p := 2) rfl ?_); refine ev_st 0 0 HS (seg := [.int .i64 0, .string (⟨#[]⟩ : ByteArray), .slice none 0 0]) ?_; clear HS; intro w21 HS F)
 replace HS := HS.nil 66 q66
 exact bodyPost_ret (results_list (rs := [.cell 2 66, .tmp 3]) rfl (by simp) (.cell _ _ _ _ _ rfl (HS.boxAt (i := 0) rfl) Tryz.underlying66 rfl (by kernel_rfl) (.tmp .nil))) rfl ⟨_, rfl, HS.pick [3] (by decide) (by rfl)⟩
def spec_l09Kids.f (a0 : S66) (a1 : Int) : Option (Unit × Bool) := (if a0.f0 = 48 then (some ((), ((a0.f2.length : Int) == a1))) else (some ((), false)))
def spec_l09Kids.T1 : TT := (true, [([], []), ([0], [0]), ([], []), ([2], [2]), ([3], [3]), ([4], [4]), ([5], [5]), ([6, 5], [5, 6]), ([7, 5], [5, 7]), ([5], [5]), ([8, 9, 5], [5, 8, 9]), ([5, 10], [5, 10]), ([1, 5, 0, 1], [1]), ([11, 12, 0, 1, 2, 3, 4, 5, 6, 7, 8, 9, 10, 11, 12], [11])])
theorem spec_l09Kids.tT1 : rtab .any (opsOf Tryz.f48 1) = spec_l09Kids.T1 := by kernel_rfl
theorem spec_l09Kids.calls {a0 : S66} {a1 : Int} {Ap0 : Option Addr} {np0 cp0 : Nat} {r1 : Unit} {r2 : Bool} {w : World} (h : spec_l09Kids.f a0 a1 = some (r1, r2)) (gp0 : k66.C w Ap0 np0 a0.f2) (lp0 : np0 ≤ cp0) :
    Calls Tryz.prog 48 #[.agg #[.int .i64 a0.f0, .string a0.f1, .slice Ap0 np0 cp0], .int .i64 a1] w (fun e w' => e = .returned (.tuple #[.slice Ap0 np0 cp0, .bool r2]) ∧ Hp noFP w w' []) := by
 obtain rfl := C_len gp0
 have HS := Hp.start w
 have H := Aside0.mk h
 clear h
 unfold spec_l09Kids.f at H
 go_enter Tryz.func48, Tryz.ntmps48
 go_wp2_with ((with_reducible refine gd 2 rfl ?_); refine ev_bx HS ?_; clear HS; intro g2 w2 HS F)
 replace H := znif' H; rcases H with ⟨c3, H⟩ | ⟨c3, H⟩
 case inl =>
  have c3a := beq_eq_false_iff_ne.mpr c3
  have c3b := bne_iff_ne.mpr c3
  clear c3
  refine dr_start [] HS #[false, false, false, false, false, false, false, false, false, false, false, false, false, false] (by kernel_rfl) rfl rfl spec_l09Kids.tT1 (fun w6 HT HS HH => ?_)
  (try clear F)
  refine drq_of [(0, some 6), (1, some 7), (2, some 8), (3, some 9), (4, some 10), (5, some 11), (6, some 12), (7, some 13), (8, some 14), (9, some 15), (10, some 16), (11, some 17), (12, some 4), (13, some 5)] ?_
  repeat (first | refine drp HT ?_ | (refine drq_pure HT (v := undef) (a' := ?_) rfl rfl (by kernel_rfl) (fun _ _ _ h => h) (.inr ⟨by rfl, rfl⟩) ?_ ?_; rotate_left; (simp only [Act.put, ptn]; rfl)) | refine drt HT HH ?_)
  refine drq_end ?_
  refine done_ (done_of HT.out (by kernel_rfl)) ?_
  (try clear F)
  have F := HS.boxes; simp only [bxn] at F
  obtain ⟨rfl, rfl⟩ := zsome2 H
  go_wp2
  exact bodyPost_ret (results_list (rs := [.tmp 4, .tmp 5]) rfl (by simp) (.tmp (.tmp .nil))) rfl ⟨rfl, HS.pick [] (by decide) (by rfl)⟩
 have c3a := beq_iff_eq.mpr c3
 have c3b := bne_eq_false_iff_eq.mpr c3
 clear c3
 refine dr_start [] HS #[false, false, false, false, false, false, false, false, false, false, false, false, false, false] (by kernel_rfl) rfl rfl spec_l09Kids.tT1 (fun w4 HT HS HH => ?_)
 (try clear F)
 refine drq_of [(0, some 6), (1, some 7), (2, some 8), (3, some 9), (4, some 10), (5, some 11), (6, some 12), (7, some 13), (8, some 14), (9, some 15), (10, some 16), (11, some 17), (12, some 4), (13, some 5)] ?_
 repeat (first | refine drp HT ?_ | refine drt HT HH ?_)
 refine drq_end ?_
 refine done_ (done_of HT.out (by kernel_rfl)) ?_
 (try clear F)
 have F := HS.boxes; simp only [bxn] at F
 obtain ⟨rfl, rfl⟩ := zsome2 H
 go_wp2
 exact bodyPost_ret (results_list (rs := [.tmp 4, .tmp 5]) rfl (by simp) (.tmp (.tmp .nil))) rfl ⟨rfl, HS.pick [] (by decide) (by rfl)⟩
def spec_l09TextsIn.l0 : Nat → (List ByteArray) → Int → S66 → Option ((List ByteArray))
  | 0, _, _, _ => none
  | k + 1, l13, x15, a0 => (if x15 < (a0.f2.length : Int) then (if 0 ≤ x15 then (if x15 < (a0.f2.length : Int) then (if l13.length + 1 ≤ 8796093022208 then (lets (l13 ++ ([(rd_T66 a0.f2 x15).f1] : List ByteArray)) fun y24 => (spec_l09TextsIn.l0 k y24 (wrap64 (x15 + 1)) a0)) else none) else none) else none) else (some l13))
def spec_l09TextsIn.f (k : Nat) (a0 : S66) : Option ((List ByteArray)) := (spec_l09TextsIn.l0 k ([] : List ByteArray) 0 a0)
theorem spec_l09TextsIn.calls {k : Nat} {a0 : S66} {Ap0 : Option Addr} {np0 cp0 : Nat} {r : (List ByteArray)} {w : World} (h : spec_l09TextsIn.f k a0 = some r) (gp0 : k66.C w Ap0 np0 a0.f2) (lp0 : np0 ≤ cp0) :
    Calls Tryz.prog 49 #[.agg #[.int .i64 a0.f0, .string a0.f1, .slice Ap0 np0 cp0]] w (fun e w' => ∃ v0_ : Value, e = .returned (v0_) ∧ Hp noFP w w' [.own (Zd.slice 9 Zd.string) r [v0_]]) := by
 obtain rfl := C_len gp0
 have HS := Hp.start w
 have H := Aside0.mk h
 clear h
 unfold spec_l09TextsIn.f at H
 go_enter Tryz.func49, Tryz.ntmps49
 go_wp2_with (first | ((with_reducible refine gd 1 rfl ?_); refine ev_bx HS ?_; clear HS; intro g1 w1 HS F) | ((with_reducible refine gd 5 rfl ?_); refine ev_li Zd.string [] ([] : List ByteArray) [] HS MadeL.nil ?_; clear HS; intro v3 w3 HS F; obtain ⟨B3, d3, rfl, m3⟩ := HS.formn 0 1 rfl rfl))
 go_loopg [3, 4] k (fun kq v_3 v_4 w' => ∃ (l13 : List ByteArray) (v14 : Value) (x15 : Int), v_3 = v14 ∧ v_4 = .int .i64 x15 ∧ Aside0 (spec_l09TextsIn.l0 kq l13 x15 a0 = some r) ∧ Aside0 (kq ≤ k) ∧ Hp noFP w w' [.box g1 [.int .i64 a0.f0, .string a0.f1, .slice Ap0 a0.f2.length cp0] 66, .own (Zd.slice 9 Zd.string) l13 [v14]])
 case atStart => exact ⟨_, _, _, rfl, rfl, H, ⟨Nat.le_refl _⟩, HS⟩
 case round =>
  clear HS H; (try clear F)
  obtain ⟨l13, v14, x15, rfl, rfl, H, HKk12, HS⟩ := hrel
  obtain ⟨B14, d14, rfl, m14⟩ := HS.form 1 rfl
  have F := HS.boxes; simp only [bxn] at F
  cases gk with
  | zero => exact absurd H.out (by simp [spec_l09TextsIn.l0])
  | succ k12 =>
   simp only [spec_l09TextsIn.l0] at H
   replace H := znif H; rcases H with ⟨c17, H⟩ | ⟨c17, H⟩
   case inl =>
    obtain rfl := zsome H
    go_wp2
    exact bodyPost_ret (results_single rfl (.tmp .nil)) rfl ⟨_, rfl, HS.pick [1] (by decide) (by rfl)⟩
   replace H := zgo H; obtain ⟨c18, H⟩ := H
   replace H := zgo H; obtain ⟨c19, H⟩ := H
   obtain ⟨ad20, B20_2, d20_2, rfl, e20_0, e20_1, e20_2, m20_2, y20_2⟩ := at_T66 gp0 x15 (of_eq_true c18) (of_eq_true c19)
   have e20_0_20 := HS.keepc e20_0
   have e20_1_20 := HS.keepc e20_1
   have e20_2_20 := HS.keepc e20_2
   replace H := zgo H; obtain ⟨c23, H⟩ := H
   replace H := zlets H; obtain ⟨y24, e_y24, H⟩ := H
   go_wp2_with (first | ((with_reducible refine gd 20 rfl ?_); refine ev_li Zd.string [] ([(rd_T66 a0.f2 x15).f1] : List ByteArray) ([.string ((rd_T66 a0.f2 x15).f1)] ++ []) HS (MadeL.cons (js1 := []) (c := [.string ((rd_T66 a0.f2 x15).f1)]) rfl (made_flat (fun _ => rfl)) MadeL.nil (by decide)) ?_; clear HS; intro v21 w21 HS F; obtain ⟨B21, d21, rfl, m21⟩ := HS.formn 1 2 rfl rfl) | ((with_reducible refine gd 21 rfl ?_); refine ev_ap Zd.string 1 2 HS rfl rfl Tryz.underlying24 info9 (of_eq_true c23) ?_; clear HS; intro v24 w24 HS; rw [← e_y24.out] at HS; obtain ⟨B24, d24, rfl, m24⟩ := HS.form 3 rfl; (try simp only [hpn, hpm] at HS); have F := HS.boxes; simp only [bxn] at F))
   go_roundg k12
   case measure => have := HKk12.out; omega
   case rel => exact ⟨_, _, _, rfl, rfl, H, ⟨by have := HKk12.out; omega⟩, HS.pick [0, 3] (by decide) (by rfl)⟩
def spec_IntIn.l0 : Nat → Int → Int → S66 → Option (Int × Bool)
  | 0, _, _, _ => none
  | k + 1, x14, x15, a0 => (if x15 < (a0.f1.size : Int) then (if 0 ≤ x15 then (if x15 < (a0.f1.size : Int) then (spec_IntIn.l0 k (wrap64 ((wrap64 (256 * x14)) + (wrap64 (bt a0.f1 x15)))) (wrap64 (x15 + 1)) a0) else none) else none) else (if 1000000000 < x14 then (some (0, false)) else (some (x14, true))))
def spec_IntIn.f (k : Nat) (a0 : S66) : Option (Int × Bool) := (if a0.f0 = 2 then ((spec_ItemOk.f k a0).bind fun t4 => (if t4 = true then (spec_IntIn.l0 k 0 0 a0) else (some (0, false)))) else (some (0, false)))
theorem spec_IntIn.calls {k : Nat} {a0 : S66} {Ap0 : Option Addr} {np0 cp0 : Nat} {r1 : Int} {r2 : Bool} {w : World} (h : spec_IntIn.f k a0 = some (r1, r2)) (gp0 : k66.C w Ap0 np0 a0.f2) (lp0 : np0 ≤ cp0) :
    Calls Tryz.prog 50 #[.agg #[.int .i64 a0.f0, .string a0.f1, .slice Ap0 np0 cp0]] w (fun e w' => e = .returned (.tuple #[.int .i64 r1, .bool r2]) ∧ Hp noFP w w' []) := by
 obtain rfl := C_len gp0
 have HS := Hp.start w
 have H := Aside0.mk h
 clear h
 unfold spec_IntIn.f at H
 go_enter Tryz.func50, Tryz.ntmps50
 replace H := znif' H; rcases H with ⟨c3, H⟩ | ⟨c3, H⟩
 case inl =>
  have c3a := beq_eq_false_iff_ne.mpr c3
  have c3b := bne_iff_ne.mpr c3
  clear c3
  obtain ⟨rfl, rfl⟩ := zsome2 H
  go_wp2_with ((with_reducible refine gd 1 rfl ?_); refine ev_bx HS ?_; clear HS; intro g1 w1 HS F)
  exact bodyPost_ret (results_list (rs := [.tmp 2, .tmp 3]) rfl (by simp) (.tmp (.tmp .nil))) rfl ⟨rfl, HS.pick [] (by decide) (by rfl)⟩
 have c3a := beq_iff_eq.mpr c3
 have c3b := bne_eq_false_iff_eq.mpr c3
 clear c3
 replace H := zbind H; obtain ⟨t4, ht4, H⟩ := H
 go_upto_if 13 with (first | ((with_reducible refine gd 1 rfl ?_); refine ev_bx HS ?_; clear HS; intro g1 w1 HS F) | ((with_reducible refine gd 11 rfl ?_); refine gg ?_; refine ev_cl HS (spec_ItemOk.calls ht4.out (HS.ro gp0) lp0) Tryz.func73 ?_; clear HS; intro wt4 HS F))
 replace H := znifb H; rcases H with ⟨c6, H⟩ | ⟨c6, H⟩
 case inl =>
  subst c6
  (try simp only [dcn, dcu, dcf])
  obtain ⟨rfl, rfl⟩ := zsome2 H
  go_wp2
  exact bodyPost_ret (results_list (rs := [.tmp 2, .tmp 3]) rfl (by simp) (.tmp (.tmp .nil))) rfl ⟨rfl, HS.pick [] (by decide) (by rfl)⟩
 subst c6
 (try simp only [dcn, dcu, dcf])
 go_wp2
 go_loopg [4, 5] k (fun kq v_4 v_5 w' => ∃ (x14 : Int) (x15 : Int), v_4 = .int .i64 x14 ∧ v_5 = .int .i64 x15 ∧ Aside0 (spec_IntIn.l0 kq x14 x15 a0 = some (r1, r2)) ∧ Aside0 (kq ≤ k) ∧ Hp noFP w w' [.box g1 [.int .i64 a0.f0, .string a0.f1, .slice Ap0 a0.f2.length cp0] 66])
 case atStart => exact ⟨_, _, rfl, rfl, H, ⟨Nat.le_refl _⟩, HS⟩
 case round =>
  clear HS H; (try clear F)
  obtain ⟨x14, x15, rfl, rfl, H, HKk13, HS⟩ := hrel
  have F := HS.boxes; simp only [bxn] at F
  cases gk with
  | zero => exact absurd H.out (by simp [spec_IntIn.l0])
  | succ k13 =>
   simp only [spec_IntIn.l0] at H
   replace H := zif H; rcases H with ⟨c17, H⟩ | ⟨c17, H⟩
   case inl =>
    replace H := zgo H; obtain ⟨c18, H⟩ := H
    replace H := zgo H; obtain ⟨c19, H⟩ := H
    have hx20 := bt_at a0.f1 x15
    go_wp2
    go_roundg k13
    case measure => have := HKk13.out; omega
    case rel => exact ⟨_, _, rfl, rfl, H, ⟨by have := HKk13.out; omega⟩, HS.pick [0] (by decide) (by rfl)⟩
   replace H := zif H; rcases H with ⟨c21, H⟩ | ⟨c21, H⟩
   case inl =>
    obtain ⟨rfl, rfl⟩ := zsome2 H
    go_wp2
    exact bodyPost_ret (results_list (rs := [.tmp 2, .tmp 3]) rfl (by simp) (.tmp (.tmp .nil))) rfl ⟨rfl, HS.pick [] (by decide) (by rfl)⟩
   obtain ⟨rfl, rfl⟩ := zsome2 H
   go_wp2
   exact bodyPost_ret (results_list (rs := [.tmp 2, .tmp 3]) rfl (by simp) (.tmp (.tmp .nil))) rfl ⟨rfl, HS.pick [] (by decide) (by rfl)⟩
def spec_ReadAsk.f (k : Nat) (a0 : ByteArray) : Option (S26 × Bool) := ((spec_ReadItem.f k a0).bind fun t3 => ((spec_l09Kids.f t3.1 6).bind fun t12 => (if t3.2 = true then (if t12.2 = true then (if 0 < (t3.1.f2.length : Int) then ((spec_l09TextsIn.f k (rd_T66 t3.1.f2 0)).bind fun t13 => (if 5 < (t3.1.f2.length : Int) then (if 1 < (t3.1.f2.length : Int) then ((spec_IntIn.f k (rd_T66 t3.1.f2 1)).bind fun t21 => (if 2 < (t3.1.f2.length : Int) then ((spec_IntIn.f k (rd_T66 t3.1.f2 2)).bind fun t27 => (if 3 < (t3.1.f2.length : Int) then ((spec_IntIn.f k (rd_T66 t3.1.f2 3)).bind fun t33 => (if 4 < (t3.1.f2.length : Int) then ((spec_IntIn.f k (rd_T66 t3.1.f2 4)).bind fun t39 => ((spec_AskText.f k (⟨t13, t21.1, t27.1, t33.1, t39.1, (((rd_T66 t3.1.f2 5).f1).toList == ([255] : List UInt8))⟩ : S26)).bind fun t43 => (if t43.2 = true then (if t43.1.toList = a0.toList then (some ((⟨t13, t21.1, t27.1, t33.1, t39.1, (((rd_T66 t3.1.f2 5).f1).toList == ([255] : List UInt8))⟩ : S26), true)) else (some ((⟨([] : List ByteArray), 0, 0, 0, 0, false⟩ : S26), false))) else (some ((⟨([] : List ByteArray), 0, 0, 0, 0, false⟩ : S26), false))))) else none)) else none)) else none)) else none) else none)) else none) else (some ((⟨([] : List ByteArray), 0, 0, 0, 0, false⟩ : S26), false))) else (some ((⟨([] : List ByteArray), 0, 0, 0, 0, false⟩ : S26), false)))))
def spec_ReadAsk.T5 : TT := (true, [([], []), ([0], [0]), ([1], [1]), ([2], [2]), ([], []), ([4], [4]), ([5], [5]), ([6], [6]), ([7], [7]), ([3, 8], [3, 8]), ([], []), ([10, 9, 3, 0, 1, 2, 3, 4, 5, 6, 7, 8, 9, 10], [9, 10])])
theorem spec_ReadAsk.tT5 : rtab .any (opsOf Tryz.f11 5) = spec_ReadAsk.T5 := by kernel_rfl
theorem spec_ReadAsk.calls {k : Nat} {a0 : ByteArray} {r1 : S26} {r2 : Bool} {w : World} (h : spec_ReadAsk.f k a0 = some (r1, r2)) :
    Calls Tryz.prog 11 #[.string a0] w (fun e w' => ∃ v0_ : Value, e = .returned (.tuple #[.agg #[v0_, .int .i64 r1.f1, .int .i64 r1.f2, .int .i64 r1.f3, .int .i64 r1.f4, .bool r1.f5], .bool r2]) ∧ Hp noFP w w' [.own (Zd.slice 9 Zd.string) r1.f0 [v0_]]) := by
 have HS := Hp.start w
 have H := Aside0.mk h
 clear h
 unfold spec_ReadAsk.f at H
 go_enter Tryz.func11, Tryz.ntmps11
 replace H := zbind H; obtain ⟨t3, ht3, H⟩ := H
 replace H := zbind H; obtain ⟨t12, ht12, H⟩ := H
 replace H := znifb H; rcases H with ⟨c14, H⟩ | ⟨c14, H⟩
 case inl =>
  obtain ⟨rfl, rfl⟩ := zsome2 H
  go_wp2_with (first | ((with_reducible refine gd 2 rfl ?_); refine ev_bx HS ?_; clear HS; intro g2 w2 HS F) | ((with_reducible refine gd 13 rfl ?_); refine ev_cl1 HS (spec_ReadItem.calls ht3.out) Tryz.func47 ?_; clear HS; intro v4 wt3 HS F; obtain ⟨B4, d4, rfl, m4⟩ := HS.form 1 rfl; refine HS.lend [0] (by decide) [.box g2 [.slice none 0 0, .int .i64 0, .int .i64 0, .int .i64 0, .int .i64 0, .bool false] 26] rfl (fun A6 HL HD HA HB6 => ?_); have gb6_0 := hide_rd HD 1 rfl (by decide); replace HS := HA; have hV := hide_view A6 wt3; clear HA HD HL; (try clear F); replace HS : Hp A6 wt3 _ [.box g2 [.slice none 0 0, .int .i64 0, .int .i64 0, .int .i64 0, .int .i64 0, .bool false] 26] := HS; have F := HS.boxes; simp only [bxn] at F) | ((with_reducible refine gd 4 rfl ?_); refine ev_bx HS ?_; clear HS; intro g4 w4 HS F) | ((with_reducible refine gate_store (p := 4) rfl ?_); refine ev_st 1 0 HS (seg := [.int .i64 t3.1.f0, .string t3.1.f1, .slice B4 t3.1.f2.length d4]) ?_; clear HS; intro w10 HS F) | ((with_reducible refine gd 18 rfl ?_); refine ev_cl HS (spec_l09Kids.calls ht12.out (hV.ro km66 HS gb6_0) m4) Tryz.func48 ?_; clear HS; intro wt12 HS F; (try simp only [c14])) | ((with_reducible refine gate_store (p := 2) rfl ?_); refine ev_st 0 0 HS (seg := [.slice none 0 0, .int .i64 0, .int .i64 0, .int .i64 0, .int .i64 0, .bool false]) ?_; clear HS; intro w55 HS F))
  have HS := HB6 _ _ HS (Nat.le_of_ble_eq_true rfl)
  replace HS := HS.nil 9 Zd.string
  exact bodyPost_ret (results_list (rs := [.cell 2 26, .tmp 3]) rfl (by simp) (.cell _ _ _ _ _ rfl (HS.boxAt (i := 0) rfl) Tryz.underlying26 rfl (by kernel_rfl) (.tmp .nil))) rfl ⟨_, rfl, HS.pick [3] (by decide) (by rfl)⟩
 go_upto_if 26 with (first | ((with_reducible refine gd 2 rfl ?_); refine ev_bx HS ?_; clear HS; intro g2 w2 HS F) | ((with_reducible refine gd 13 rfl ?_); refine ev_cl1 HS (spec_ReadItem.calls ht3.out) Tryz.func47 ?_; clear HS; intro v4 wt3 HS F; obtain ⟨B4, d4, rfl, m4⟩ := HS.form 1 rfl; refine HS.lend [0] (by decide) [.box g2 [.slice none 0 0, .int .i64 0, .int .i64 0, .int .i64 0, .int .i64 0, .bool false] 26] rfl (fun A6 HL HD HA HB6 => ?_); have gb6_0 := hide_rd HD 1 rfl (by decide); replace HS := HA; have hV := hide_view A6 wt3; clear HA HD HL; (try clear F); replace HS : Hp A6 wt3 _ [.box g2 [.slice none 0 0, .int .i64 0, .int .i64 0, .int .i64 0, .int .i64 0, .bool false] 26] := HS; have F := HS.boxes; simp only [bxn] at F) | ((with_reducible refine gd 4 rfl ?_); refine ev_bx HS ?_; clear HS; intro g4 w4 HS F) | ((with_reducible refine gate_store (p := 4) rfl ?_); refine ev_st 1 0 HS (seg := [.int .i64 t3.1.f0, .string t3.1.f1, .slice B4 t3.1.f2.length d4]) ?_; clear HS; intro w10 HS F) | ((with_reducible refine gd 18 rfl ?_); refine ev_cl HS (spec_l09Kids.calls ht12.out (hV.ro km66 HS gb6_0) m4) Tryz.func48 ?_; clear HS; intro wt12 HS F; (try simp only [c14])))
 replace H := znifb H; rcases H with ⟨c15, H⟩ | ⟨c15, H⟩
 case inl =>
  (try simp only [c15, dcn])
  obtain ⟨rfl, rfl⟩ := zsome2 H
  go_wp2_with ((with_reducible refine gate_store (p := 2) rfl ?_); refine ev_st 0 0 HS (seg := [.slice none 0 0, .int .i64 0, .int .i64 0, .int .i64 0, .int .i64 0, .bool false]) ?_; clear HS; intro w53 HS F)
  have HS := HB6 _ _ HS (Nat.le_of_ble_eq_true rfl)
  replace HS := HS.nil 9 Zd.string
  exact bodyPost_ret (results_list (rs := [.cell 2 26, .tmp 3]) rfl (by simp) (.cell _ _ _ _ _ rfl (HS.boxAt (i := 0) rfl) Tryz.underlying26 rfl (by kernel_rfl) (.tmp .nil))) rfl ⟨_, rfl, HS.pick [3] (by decide) (by rfl)⟩
 (try simp only [c15, dcn])
 (try go_wp2)
 replace H := zgo H; obtain ⟨c7, H⟩ := H
 have c7n : (0 < t3.1.f2.length) = True := eq_true (by have := of_eq_true c7; omega)
 obtain ⟨ad9, B9_2, d9_2, rfl, e9_0, e9_1, e9_2, m9_2, y9_2⟩ := at_T66 gb6_0 0 (of_eq_true (eq_true (by decide))) (of_eq_true c7); (try (have e9_0' := e9_0; simp only [Int.toNat_zero, Int.reduceToNat, Int.toNat_natCast, Nat.zero_mul, Nat.one_mul, Nat.zero_add, Nat.add_zero, Addr.add_zero', Addr.add_succ', Nat.reduceMul, Nat.reduceAdd] at e9_0')); (try (have e9_1' := e9_1; simp only [Int.toNat_zero, Int.reduceToNat, Int.toNat_natCast, Nat.zero_mul, Nat.one_mul, Nat.zero_add, Nat.add_zero, Addr.add_zero', Addr.add_succ', Nat.reduceMul, Nat.reduceAdd] at e9_1')); (try (have e9_2' := e9_2; simp only [Int.toNat_zero, Int.reduceToNat, Int.toNat_natCast, Nat.zero_mul, Nat.one_mul, Nat.zero_add, Nat.add_zero, Addr.add_zero', Addr.add_succ', Nat.reduceMul, Nat.reduceAdd] at e9_2'))
 replace H := zbind H; obtain ⟨t13, ht13, H⟩ := H
 replace H := zgo H; obtain ⟨c18, H⟩ := H
 have c18n : (5 < t3.1.f2.length) = True := eq_true (by have := of_eq_true c18; omega)
 obtain ⟨ad22, B22_2, d22_2, hq22, e22_0, e22_1, e22_2, m22_2, y22_2⟩ := at_T66 gb6_0 5 (of_eq_true (eq_true (by decide))) (of_eq_true c18); obtain rfl := Option.some.inj hq22; (try (have e22_0' := e22_0; simp only [Int.toNat_zero, Int.reduceToNat, Int.toNat_natCast, Nat.zero_mul, Nat.one_mul, Nat.zero_add, Nat.add_zero, Addr.add_zero', Addr.add_succ', Nat.reduceMul, Nat.reduceAdd] at e22_0')); (try (have e22_1' := e22_1; simp only [Int.toNat_zero, Int.reduceToNat, Int.toNat_natCast, Nat.zero_mul, Nat.one_mul, Nat.zero_add, Nat.add_zero, Addr.add_zero', Addr.add_succ', Nat.reduceMul, Nat.reduceAdd] at e22_1')); (try (have e22_2' := e22_2; simp only [Int.toNat_zero, Int.reduceToNat, Int.toNat_natCast, Nat.zero_mul, Nat.one_mul, Nat.zero_add, Nat.add_zero, Addr.add_zero', Addr.add_succ', Nat.reduceMul, Nat.reduceAdd] at e22_2'))
 refine dr_start [11] HS #[false, false, false, false, false, false, false, false, false, false, false, false] (by kernel_rfl) rfl rfl spec_ReadAsk.tT5 (fun w17 HT HS HH => ?_)
 (try clear F)
 refine join_ 0 #[true, true, true, true, true, true, true, true, true, true, true, true] (fun ((v16, g8, pe29, pe30, pe33, pe34) : Value × Nat × Value × Value × Value × Value) => ([(28, .slice (some ad9) t3.1.f2.length d4), (29, pe29), (30, pe30), (31, v16), (32, .slice (some ad9) t3.1.f2.length d4), (33, pe33), (34, pe34), (35, .string ((rd_T66 t3.1.f2 5).f1)), (36, .bool (((rd_T66 t3.1.f2 5).f1).toList == ([255] : List UInt8))), (37, .agg #[v16, .int .i64 0, .int .i64 0, .int .i64 0, .int .i64 0, .bool (((rd_T66 t3.1.f2 5).f1).toList == ([255] : List UInt8))]), (8, .pointer (some ⟨g8, 0, none⟩))] : List (Tmp × Value))) (fun ((v16, g8, pe29, pe30, pe33, pe34) : Value × Nat × Value × Value × Value × Value) w' => Hp A6 wt3 w' [.box g2 [.slice none 0 0, .int .i64 0, .int .i64 0, .int .i64 0, .int .i64 0, .bool false] 26, .box g4 [.int .i64 t3.1.f0, .string t3.1.f1, .slice (some ad9) t3.1.f2.length d4] 66, .own (Zd.slice 9 Zd.string) t13 [v16], .box g8 [v16, .int .i64 0, .int .i64 0, .int .i64 0, .int .i64 0, .bool (((rd_T66 t3.1.f2 5).f1).toList == ([255] : List UInt8))] 26]) ?_ ?_
 rotate_left
 · intro hJ
   refine drq_of [(0, some 28), (1, some 29)] ?_
   repeat (refine drp HT ?_)
   refine drq_end ?_
   refine dr_take 2 (some 30) HT HH (v := ?_) (a' := ?_) rfl rfl (by kernel_rfl) (fun _ _ _ h => h) (.inl ⟨by rfl, ?_⟩) ?_ ?_
   rotate_left
   · rintro w' ⟨rs', HS'⟩; have e9_0 := (hV.keepc HS' e9_0); have e9_1 := (hV.keepc HS' e9_1); have e9_2 := (hV.keepc HS' e9_2); (try simp only [Int.toNat_zero, Int.reduceToNat, Int.toNat_natCast, Nat.zero_mul, Nat.one_mul, Nat.zero_add, Nat.add_zero, Addr.add_zero', Addr.add_succ', Nat.reduceMul, Nat.reduceAdd] at e9_0 e9_1 e9_2); go_simp; with_reducible rfl
   rotate_left
   · simp only [Act.put, ptn]; rfl
   refine drq_of [(4, some 32), (5, some 33), (6, some 34)] ?_
   repeat (refine drp HT ?_)
   refine drq_end ?_
   refine dr_take 7 (some 35) HT HH (v := ?_) (a' := ?_) rfl rfl (by kernel_rfl) (fun _ _ _ h => h) (.inl ⟨by rfl, ?_⟩) ?_ ?_
   rotate_left
   · rintro w' ⟨rs', HS'⟩; have e22_0 := (hV.keepc HS' e22_0); have e22_1 := (hV.keepc HS' e22_1); have e22_2 := (hV.keepc HS' e22_2); (try simp only [Int.toNat_zero, Int.reduceToNat, Int.toNat_natCast, Nat.zero_mul, Nat.one_mul, Nat.zero_add, Nat.add_zero, Addr.add_zero', Addr.add_succ', Nat.reduceMul, Nat.reduceAdd] at e22_0 e22_1 e22_2); go_simp; with_reducible rfl
   rotate_left
   · simp only [Act.put, ptn]; rfl
   refine drq_of [(8, some 36)] ?_
   repeat (refine drp HT ?_)
   refine drq_end ?_
   refine dr_any [3, 10] HT (by kernel_rfl) (by decide) (AllReadyL.cons rfl (by decide) (fun K hK => ?_) (AllReadyL.cons rfl (by decide) (fun K hK => ?_) AllReadyL.nil))
   · refine go_cl1 HS (spec_l09TextsIn.calls ht13.out (hV.ro km66 HS y9_2) m9_2) Tryz.func49 ?_; clear HS; intro v16 wt13 HS F; obtain ⟨B16, d16, rfl, m16⟩ := HS.form 2 rfl
     refine hK.out _ _ ⟨_, HS⟩ (fun HH => ?_)
     clear hK K
     refine norm_ (a' := ?_) ?_ ?_
     rotate_left
     · show Act.put _ (some 31) _ = _; simp only [Act.put, ptn, c14, c15]; rfl
     refine drq_of [(9, some 37)] ?_
     repeat (refine drp HT ?_)
     refine drq_end ?_
     refine dr1 10 HT fun K hK => ?_
     refine if_bx HS ?_; clear HS; intro g8 w8 HS F
     refine hK.out _ _ ⟨_, HS⟩ (fun HH => ?_)
     clear hK K
     refine norm_ (a' := ?_) ?_ ?_
     rotate_left
     · show Act.put _ (some 8) _ = _; simp only [Act.put, ptn, c14, c15]; rfl
     refine dr_last 11 HT rfl (by kernel_rfl) (by decide) (fun K hK => ?_)
     refine if_st 3 0 HS (seg := [.slice B16 t13.length d16, .int .i64 0, .int .i64 0, .int .i64 0, .int .i64 0, .bool (((rd_T66 t3.1.f2 5).f1).toList == ([255] : List UInt8))]) ?_; clear HS; intro w24 HS F
     refine hK.out _ _ ?_
     clear hK K
     refine norm_ ?_ (hJ (.slice B16 t13.length d16, g8, .pointer (some ad9), .agg #[.int .i64 ((rd_T66 t3.1.f2 0).f0), .string ((rd_T66 t3.1.f2 0).f1), .slice B9_2 (rd_T66 t3.1.f2 0).f2.length d9_2], .pointer (some (ad9.add 15)), .pointer (some (ad9.add 16))) _ (HS.arr [some 0, some 1, some 2, some 3] (by decide)))
     simp only [putAll, Act.put, ptn, c14, c15]
     (try rfl)
   · refine if_bx HS ?_; clear HS; intro g8 w8 HS F
     refine hK.out _ _ ⟨_, HS⟩ (fun HH => ?_)
     clear hK K
     refine norm_ (a' := ?_) ?_ ?_
     rotate_left
     · show Act.put _ (some 8) _ = _; simp only [Act.put, ptn, c14, c15]; rfl
     refine dr1 3 HT fun K hK => ?_
     refine go_cl1 HS (spec_l09TextsIn.calls ht13.out (hV.ro km66 HS y9_2) m9_2) Tryz.func49 ?_; clear HS; intro v16 wt13 HS F; obtain ⟨B16, d16, rfl, m16⟩ := HS.form 3 rfl
     refine hK.out _ _ ⟨_, HS⟩ (fun HH => ?_)
     clear hK K
     refine norm_ (a' := ?_) ?_ ?_
     rotate_left
     · show Act.put _ (some 31) _ = _; simp only [Act.put, ptn, c14, c15]; rfl
     refine drq_of [(9, some 37)] ?_
     repeat (refine drp HT ?_)
     refine drq_end ?_
     refine dr_last 11 HT rfl (by kernel_rfl) (by decide) (fun K hK => ?_)
     refine if_st 2 0 HS (seg := [.slice B16 t13.length d16, .int .i64 0, .int .i64 0, .int .i64 0, .int .i64 0, .bool (((rd_T66 t3.1.f2 5).f1).toList == ([255] : List UInt8))]) ?_; clear HS; intro w24 HS F
     refine hK.out _ _ ?_
     clear hK K
     refine norm_ ?_ (hJ (.slice B16 t13.length d16, g8, .pointer (some ad9), .agg #[.int .i64 ((rd_T66 t3.1.f2 0).f0), .string ((rd_T66 t3.1.f2 0).f1), .slice B9_2 (rd_T66 t3.1.f2 0).f2.length d9_2], .pointer (some (ad9.add 15)), .pointer (some (ad9.add 16))) _ (HS.arr [some 0, some 1, some 3, some 2] (by decide)))
     simp only [putAll, Act.put, ptn, c14, c15]
     (try rfl)
 rintro ⟨v16, g8, pe29, pe30, pe33, pe34⟩ w28 HS
 obtain ⟨B16, d16, rfl, m16⟩ := HS.form 2 rfl
 have F := HS.boxes; simp only [bxn] at F
 refine norm_ (a' := ?_) ?_ ?_
 rotate_left
 · simp only [putAll, Act.put, ptn, c14, c15]; rfl
 refine done_ (done_of HT.out (by kernel_rfl)) ?_
 replace H := zgo H; obtain ⟨c19, H⟩ := H
 have c19n : (1 < t3.1.f2.length) = True := eq_true (by have := of_eq_true c19; omega)
 obtain ⟨ad20, B20_2, d20_2, hq20, e20_0, e20_1, e20_2, m20_2, y20_2⟩ := at_T66 gb6_0 1 (of_eq_true (eq_true (by decide))) (of_eq_true c19)
 obtain rfl := Option.some.inj hq20
 (try (have e20_0' := e20_0; simp only [Int.toNat_zero, Int.reduceToNat, Int.toNat_natCast, Nat.zero_mul, Nat.one_mul, Nat.zero_add, Nat.add_zero, Addr.add_zero', Addr.add_succ', Nat.reduceMul, Nat.reduceAdd] at e20_0'))
 (try (have e20_1' := e20_1; simp only [Int.toNat_zero, Int.reduceToNat, Int.toNat_natCast, Nat.zero_mul, Nat.one_mul, Nat.zero_add, Nat.add_zero, Addr.add_zero', Addr.add_succ', Nat.reduceMul, Nat.reduceAdd] at e20_1'))
 (try (have e20_2' := e20_2; simp only [Int.toNat_zero, Int.reduceToNat, Int.toNat_natCast, Nat.zero_mul, Nat.one_mul, Nat.zero_add, Nat.add_zero, Addr.add_zero', Addr.add_succ', Nat.reduceMul, Nat.reduceAdd] at e20_2'))
 have e20_0_20 := (hV.keepc HS e20_0)
 have e20_1_20 := (hV.keepc HS e20_1)
 have e20_2_20 := (hV.keepc HS e20_2)
 (try have e20_0'_20 := (hV.keepc HS e20_0'))
 (try have e20_1'_20 := (hV.keepc HS e20_1'))
 (try have e20_2'_20 := (hV.keepc HS e20_2'))
 replace H := zbind H; obtain ⟨t21, ht21, H⟩ := H
 replace H := zgo H; obtain ⟨c25, H⟩ := H
 have c25n : (2 < t3.1.f2.length) = True := eq_true (by have := of_eq_true c25; omega)
 replace H := zbind H; obtain ⟨t27, ht27, H⟩ := H
 replace H := zgo H; obtain ⟨c31, H⟩ := H
 have c31n : (3 < t3.1.f2.length) = True := eq_true (by have := of_eq_true c31; omega)
 replace H := zbind H; obtain ⟨t33, ht33, H⟩ := H
 replace H := zgo H; obtain ⟨c37, H⟩ := H
 have c37n : (4 < t3.1.f2.length) = True := eq_true (by have := of_eq_true c37; omega)
 replace H := zbind H; obtain ⟨t39, ht39, H⟩ := H
 replace H := zbind H; obtain ⟨t43, ht43, H⟩ := H
 replace H := znifb H; rcases H with ⟨c45, H⟩ | ⟨c45, H⟩
 case inl =>
  obtain ⟨rfl, rfl⟩ := zsome2 H
  go_wp2_with (first | ((with_reducible refine gd 42 rfl ?_); refine ev_cl HS (spec_IntIn.calls ht21.out (hV.ro km66 HS y20_2) m20_2) Tryz.func50 ?_; clear HS; intro wt21 HS F) | ((with_reducible refine gate_store (p := 45) rfl ?_); refine ev_st 3 1 HS (seg := [.int .i64 t21.1]) ?_; clear HS; intro w23 HS F; obtain ⟨ad26, B26_2, d26_2, hq26, e26_0, e26_1, e26_2, m26_2, y26_2⟩ := at_T66 gb6_0 2 (of_eq_true (eq_true (by decide))) (of_eq_true c25); obtain rfl := Option.some.inj hq26; (try (have e26_0' := e26_0; simp only [Int.toNat_zero, Int.reduceToNat, Int.toNat_natCast, Nat.zero_mul, Nat.one_mul, Nat.zero_add, Nat.add_zero, Addr.add_zero', Addr.add_succ', Nat.reduceMul, Nat.reduceAdd] at e26_0')); (try (have e26_1' := e26_1; simp only [Int.toNat_zero, Int.reduceToNat, Int.toNat_natCast, Nat.zero_mul, Nat.one_mul, Nat.zero_add, Nat.add_zero, Addr.add_zero', Addr.add_succ', Nat.reduceMul, Nat.reduceAdd] at e26_1')); (try (have e26_2' := e26_2; simp only [Int.toNat_zero, Int.reduceToNat, Int.toNat_natCast, Nat.zero_mul, Nat.one_mul, Nat.zero_add, Nat.add_zero, Addr.add_zero', Addr.add_succ', Nat.reduceMul, Nat.reduceAdd] at e26_2')); have e26_0_26 := (hV.keepc HS e26_0); have e26_1_26 := (hV.keepc HS e26_1); have e26_2_26 := (hV.keepc HS e26_2); (try have e26_0'_26 := (hV.keepc HS e26_0')); (try have e26_1'_26 := (hV.keepc HS e26_1')); (try have e26_2'_26 := (hV.keepc HS e26_2'))) | ((with_reducible refine gd 50 rfl ?_); refine ev_cl HS (spec_IntIn.calls ht27.out (hV.ro km66 HS y26_2) m26_2) Tryz.func50 ?_; clear HS; intro wt27 HS F) | ((with_reducible refine gate_store (p := 53) rfl ?_); refine ev_st 3 2 HS (seg := [.int .i64 t27.1]) ?_; clear HS; intro w29 HS F; obtain ⟨ad32, B32_2, d32_2, hq32, e32_0, e32_1, e32_2, m32_2, y32_2⟩ := at_T66 gb6_0 3 (of_eq_true (eq_true (by decide))) (of_eq_true c31); obtain rfl := Option.some.inj hq32; (try (have e32_0' := e32_0; simp only [Int.toNat_zero, Int.reduceToNat, Int.toNat_natCast, Nat.zero_mul, Nat.one_mul, Nat.zero_add, Nat.add_zero, Addr.add_zero', Addr.add_succ', Nat.reduceMul, Nat.reduceAdd] at e32_0')); (try (have e32_1' := e32_1; simp only [Int.toNat_zero, Int.reduceToNat, Int.toNat_natCast, Nat.zero_mul, Nat.one_mul, Nat.zero_add, Nat.add_zero, Addr.add_zero', Addr.add_succ', Nat.reduceMul, Nat.reduceAdd] at e32_1')); (try (have e32_2' := e32_2; simp only [Int.toNat_zero, Int.reduceToNat, Int.toNat_natCast, Nat.zero_mul, Nat.one_mul, Nat.zero_add, Nat.add_zero, Addr.add_zero', Addr.add_succ', Nat.reduceMul, Nat.reduceAdd] at e32_2')); have e32_0_32 := (hV.keepc HS e32_0); have e32_1_32 := (hV.keepc HS e32_1); have e32_2_32 := (hV.keepc HS e32_2); (try have e32_0'_32 := (hV.keepc HS e32_0')); (try have e32_1'_32 := (hV.keepc HS e32_1')); (try have e32_2'_32 := (hV.keepc HS e32_2'))) | ((with_reducible refine gd 58 rfl ?_); refine ev_cl HS (spec_IntIn.calls ht33.out (hV.ro km66 HS y32_2) m32_2) Tryz.func50 ?_; clear HS; intro wt33 HS F) | ((with_reducible refine gate_store (p := 61) rfl ?_); refine ev_st 3 3 HS (seg := [.int .i64 t33.1]) ?_; clear HS; intro w35 HS F; obtain ⟨ad38, B38_2, d38_2, hq38, e38_0, e38_1, e38_2, m38_2, y38_2⟩ := at_T66 gb6_0 4 (of_eq_true (eq_true (by decide))) (of_eq_true c37); obtain rfl := Option.some.inj hq38; (try (have e38_0' := e38_0; simp only [Int.toNat_zero, Int.reduceToNat, Int.toNat_natCast, Nat.zero_mul, Nat.one_mul, Nat.zero_add, Nat.add_zero, Addr.add_zero', Addr.add_succ', Nat.reduceMul, Nat.reduceAdd] at e38_0')); (try (have e38_1' := e38_1; simp only [Int.toNat_zero, Int.reduceToNat, Int.toNat_natCast, Nat.zero_mul, Nat.one_mul, Nat.zero_add, Nat.add_zero, Addr.add_zero', Addr.add_succ', Nat.reduceMul, Nat.reduceAdd] at e38_1')); (try (have e38_2' := e38_2; simp only [Int.toNat_zero, Int.reduceToNat, Int.toNat_natCast, Nat.zero_mul, Nat.one_mul, Nat.zero_add, Nat.add_zero, Addr.add_zero', Addr.add_succ', Nat.reduceMul, Nat.reduceAdd] at e38_2')); have e38_0_38 := (hV.keepc HS e38_0); have e38_1_38 := (hV.keepc HS e38_1); have e38_2_38 := (hV.keepc HS e38_2); (try have e38_0'_38 := (hV.keepc HS e38_0')); (try have e38_1'_38 := (hV.keepc HS e38_1')); (try have e38_2'_38 := (hV.keepc HS e38_2'))) | ((with_reducible refine gd 66 rfl ?_); refine ev_cl HS (spec_IntIn.calls ht39.out (hV.ro km66 HS y38_2) m38_2) Tryz.func50 ?_; clear HS; intro wt39 HS F) | ((with_reducible refine gate_store (p := 69) rfl ?_); refine ev_st 3 4 HS (seg := [.int .i64 t39.1]) ?_; clear HS; intro w41 HS F) | ((with_reducible refine gd 72 rfl ?_); refine ev_cl HS (spec_AskText.calls ht43.out (HS.rd 2 rfl) m16) Tryz.func8 ?_; clear HS; intro wt43 HS F; (try simp only [c45])) | ((with_reducible refine gate_store (p := 2) rfl ?_); refine ev_st 0 0 HS (seg := [.slice none 0 0, .int .i64 0, .int .i64 0, .int .i64 0, .int .i64 0, .bool false]) ?_; clear HS; intro w51 HS F))
  have HS := HB6 _ _ HS (Nat.le_of_ble_eq_true rfl)
  replace HS := HS.nil 9 Zd.string
  exact bodyPost_ret (results_list (rs := [.cell 2 26, .tmp 3]) rfl (by simp) (.cell _ _ _ _ _ rfl (HS.boxAt (i := 0) rfl) Tryz.underlying26 rfl (by kernel_rfl) (.tmp .nil))) rfl ⟨_, rfl, HS.pick [5] (by decide) (by rfl)⟩
 go_upto_if 81 with (first | ((with_reducible refine gd 42 rfl ?_); refine ev_cl HS (spec_IntIn.calls ht21.out (hV.ro km66 HS y20_2) m20_2) Tryz.func50 ?_; clear HS; intro wt21 HS F) | ((with_reducible refine gate_store (p := 45) rfl ?_); refine ev_st 3 1 HS (seg := [.int .i64 t21.1]) ?_; clear HS; intro w23 HS F; obtain ⟨ad26, B26_2, d26_2, hq26, e26_0, e26_1, e26_2, m26_2, y26_2⟩ := at_T66 gb6_0 2 (of_eq_true (eq_true (by decide))) (of_eq_true c25); obtain rfl := Option.some.inj hq26; (try (have e26_0' := e26_0; simp only [Int.toNat_zero, Int.reduceToNat, Int.toNat_natCast, Nat.zero_mul, Nat.one_mul, Nat.zero_add, Nat.add_zero, Addr.add_zero', Addr.add_succ', Nat.reduceMul, Nat.reduceAdd] at e26_0')); (try (have e26_1' := e26_1; simp only [Int.toNat_zero, Int.reduceToNat, Int.toNat_natCast, Nat.zero_mul, Nat.one_mul, Nat.zero_add, Nat.add_zero, Addr.add_zero', Addr.add_succ', Nat.reduceMul, Nat.reduceAdd] at e26_1')); (try (have e26_2' := e26_2; simp only [Int.toNat_zero, Int.reduceToNat, Int.toNat_natCast, Nat.zero_mul, Nat.one_mul, Nat.zero_add, Nat.add_zero, Addr.add_zero', Addr.add_succ', Nat.reduceMul, Nat.reduceAdd] at e26_2')); have e26_0_26 := (hV.keepc HS e26_0); have e26_1_26 := (hV.keepc HS e26_1); have e26_2_26 := (hV.keepc HS e26_2); (try have e26_0'_26 := (hV.keepc HS e26_0')); (try have e26_1'_26 := (hV.keepc HS e26_1')); (try have e26_2'_26 := (hV.keepc HS e26_2'))) | ((with_reducible refine gd 50 rfl ?_); refine ev_cl HS (spec_IntIn.calls ht27.out (hV.ro km66 HS y26_2) m26_2) Tryz.func50 ?_; clear HS; intro wt27 HS F) | ((with_reducible refine gate_store (p := 53) rfl ?_); refine ev_st 3 2 HS (seg := [.int .i64 t27.1]) ?_; clear HS; intro w29 HS F; obtain ⟨ad32, B32_2, d32_2, hq32, e32_0, e32_1, e32_2, m32_2, y32_2⟩ := at_T66 gb6_0 3 (of_eq_true (eq_true (by decide))) (of_eq_true c31); obtain rfl := Option.some.inj hq32; (try (have e32_0' := e32_0; simp only [Int.toNat_zero, Int.reduceToNat, Int.toNat_natCast, Nat.zero_mul, Nat.one_mul, Nat.zero_add, Nat.add_zero, Addr.add_zero', Addr.add_succ', Nat.reduceMul, Nat.reduceAdd] at e32_0')); (try (have e32_1' := e32_1; simp only [Int.toNat_zero, Int.reduceToNat, Int.toNat_natCast, Nat.zero_mul, Nat.one_mul, Nat.zero_add, Nat.add_zero, Addr.add_zero', Addr.add_succ', Nat.reduceMul, Nat.reduceAdd] at e32_1')); (try (have e32_2' := e32_2; simp only [Int.toNat_zero, Int.reduceToNat, Int.toNat_natCast, Nat.zero_mul, Nat.one_mul, Nat.zero_add, Nat.add_zero, Addr.add_zero', Addr.add_succ', Nat.reduceMul, Nat.reduceAdd] at e32_2')); have e32_0_32 := (hV.keepc HS e32_0); have e32_1_32 := (hV.keepc HS e32_1); have e32_2_32 := (hV.keepc HS e32_2); (try have e32_0'_32 := (hV.keepc HS e32_0')); (try have e32_1'_32 := (hV.keepc HS e32_1')); (try have e32_2'_32 := (hV.keepc HS e32_2'))) | ((with_reducible refine gd 58 rfl ?_); refine ev_cl HS (spec_IntIn.calls ht33.out (hV.ro km66 HS y32_2) m32_2) Tryz.func50 ?_; clear HS; intro wt33 HS F) | ((with_reducible refine gate_store (p := 61) rfl ?_); refine ev_st 3 3 HS (seg := [.int .i64 t33.1]) ?_; clear HS; intro w35 HS F; obtain ⟨ad38, B38_2, d38_2, hq38, e38_0, e38_1, e38_2, m38_2, y38_2⟩ := at_T66 gb6_0 4 (of_eq_true (eq_true (by decide))) (of_eq_true c37); obtain rfl := Option.some.inj hq38; (try (have e38_0' := e38_0; simp only [Int.toNat_zero, Int.reduceToNat, Int.toNat_natCast, Nat.zero_mul, Nat.one_mul, Nat.zero_add, Nat.add_zero, Addr.add_zero', Addr.add_succ', Nat.reduceMul, Nat.reduceAdd] at e38_0')); (try (have e38_1' := e38_1; simp only [Int.toNat_zero, Int.reduceToNat, Int.toNat_natCast, Nat.zero_mul, Nat.one_mul, Nat.zero_add, Nat.add_zero, Addr.add_zero', Addr.add_succ', Nat.reduceMul, Nat.reduceAdd] at e38_1')); (try (have e38_2' := e38_2; simp only [Int.toNat_zero, Int.reduceToNat, Int.toNat_natCast, Nat.zero_mul, Nat.one_mul, Nat.zero_add, Nat.add_zero, Addr.add_zero', Addr.add_succ', Nat.reduceMul, Nat.reduceAdd] at e38_2')); have e38_0_38 := (hV.keepc HS e38_0); have e38_1_38 := (hV.keepc HS e38_1); have e38_2_38 := (hV.keepc HS e38_2); (try have e38_0'_38 := (hV.keepc HS e38_0')); (try have e38_1'_38 := (hV.keepc HS e38_1')); (try have e38_2'_38 := (hV.keepc HS e38_2'))) | ((with_reducible refine gd 66 rfl ?_); refine ev_cl HS (spec_IntIn.calls ht39.out (hV.ro km66 HS y38_2) m38_2) Tryz.func50 ?_; clear HS; intro wt39 HS F) | ((with_reducible refine gate_store (p := 69) rfl ?_); refine ev_st 3 4 HS (seg := [.int .i64 t39.1]) ?_; clear HS; intro w41 HS F) | ((with_reducible refine gd 72 rfl ?_); refine ev_cl HS (spec_AskText.calls ht43.out (HS.rd 2 rfl) m16) Tryz.func8 ?_; clear HS; intro wt43 HS F; (try simp only [c45])))
 replace H := znif' H; rcases H with ⟨c46, H⟩ | ⟨c46, H⟩
 case inl =>
  have c46a := beq_eq_false_iff_ne.mpr c46
  have c46b := bne_iff_ne.mpr c46
  clear c46
  (try simp only [c46a, c46b, dcn])
  obtain ⟨rfl, rfl⟩ := zsome2 H
  go_wp2_with ((with_reducible refine gate_store (p := 2) rfl ?_); refine ev_st 0 0 HS (seg := [.slice none 0 0, .int .i64 0, .int .i64 0, .int .i64 0, .int .i64 0, .bool false]) ?_; clear HS; intro w49 HS F)
  have HS := HB6 _ _ HS (Nat.le_of_ble_eq_true rfl)
  replace HS := HS.nil 9 Zd.string
  exact bodyPost_ret (results_list (rs := [.cell 2 26, .tmp 3]) rfl (by simp) (.cell _ _ _ _ _ rfl (HS.boxAt (i := 0) rfl) Tryz.underlying26 rfl (by kernel_rfl) (.tmp .nil))) rfl ⟨_, rfl, HS.pick [5] (by decide) (by rfl)⟩
 have c46a := beq_iff_eq.mpr c46
 have c46b := bne_eq_false_iff_eq.mpr c46
 clear c46
 (try simp only [c46a, c46b, dcn])
 obtain ⟨rfl, rfl⟩ := zsome2 H
 go_wp2_with ((with_reducible refine gate_store (p := 2) rfl ?_); refine ev_st 0 0 HS (seg := [.slice B16 t13.length d16, .int .i64 t21.1, .int .i64 t27.1, .int .i64 t33.1, .int .i64 t39.1, .bool (((rd_T66 t3.1.f2 5).f1).toList == ([255] : List UInt8))]) ?_; clear HS; intro w47 HS F)
 have HS := HB6 _ _ HS (Nat.le_of_ble_eq_true rfl)
 exact bodyPost_ret (results_list (rs := [.cell 2 26, .tmp 3]) rfl (by simp) (.cell _ _ _ _ _ rfl (HS.boxAt (i := 0) rfl) Tryz.underlying26 rfl (by kernel_rfl) (.tmp .nil))) rfl ⟨_, rfl, HS.pick [3] (by decide) (by rfl)⟩
def impl_textsOk_1.f (a0 : ByteArray) : Option (Bool) := (some (decide (400 < (a0.size : Int))))
theorem impl_textsOk_1.calls {a0 : ByteArray} {r : Bool} {w : World} (h : impl_textsOk_1.f a0 = some r) :
    Calls Tryz.prog 83 #[.string a0] w (fun e w' => e = .returned (.bool r) ∧ Hp noFP w w' []) := by
 have HS := Hp.start w
 have H := Aside0.mk h
 clear h
 unfold impl_textsOk_1.f at H
 go_enter Tryz.func83, Tryz.ntmps83
 obtain rfl := zsome H
 go_wp2
 go_ret
 exact HS.pk
def slices_IndexFunc_string_string_0.l0 : Nat → Int → (List ByteArray) → Option (Int)
  | 0, _, _ => none
  | k + 1, x4, a0 => (if x4 < (a0.length : Int) then (if 0 ≤ x4 then (if x4 < (a0.length : Int) then ((impl_textsOk_1.f (rdOf ByteArray.empty a0 x4)).bind fun t10 => (if t10 = true then (some x4) else (slices_IndexFunc_string_string_0.l0 k (wrap64 (x4 + 1)) a0))) else none) else none) else (some (-1)))
def slices_IndexFunc_string_string_0.f (k : Nat) (a0 : (List ByteArray)) : Option (Int) := (slices_IndexFunc_string_string_0.l0 k 0 a0)
theorem slices_IndexFunc_string_string_0.calls {k : Nat} {a0 : (List ByteArray)} {Ap0 : Option Addr} {np0 cp0 : Nat} {r : Int} {w : World} (h : slices_IndexFunc_string_string_0.f k a0 = some r) (gp0 : Kd.string.C w Ap0 np0 a0) (lp0 : np0 ≤ cp0) :
    Calls Tryz.prog 108 #[.slice Ap0 np0 cp0, .func (.func 83) #[] #[]] w (fun e w' => e = .returned (.int .i64 r) ∧ Hp noFP w w' []) := by
 obtain rfl := C_len gp0
 have HS := Hp.start w
 have H := Aside0.mk h
 clear h
 unfold slices_IndexFunc_string_string_0.f at H
 go_enter Tryz.func108, Tryz.ntmps108
 go_wp2
 go_loopg [8] k (fun kq v_8 w' => ∃ (x4 : Int), v_8 = .int .i64 x4 ∧ Aside0 (slices_IndexFunc_string_string_0.l0 kq x4 a0 = some r) ∧ Aside0 (kq ≤ k) ∧ Hp noFP w w' [])
 case atStart => exact ⟨_, rfl, H, ⟨Nat.le_refl _⟩, HS⟩
 case round =>
  clear HS H; (try clear F)
  obtain ⟨x4, rfl, H, HKk3, HS⟩ := hrel
  cases gk with
  | zero => exact absurd H.out (by simp [slices_IndexFunc_string_string_0.l0])
  | succ k3 =>
   simp only [slices_IndexFunc_string_string_0.l0] at H
   replace H := znif H; rcases H with ⟨c6, H⟩ | ⟨c6, H⟩
   case inl =>
    obtain rfl := zsome H
    go_wp2
    go_ret
    exact HS.pk
   replace H := zgo H; obtain ⟨c7, H⟩ := H
   replace H := zgo H; obtain ⟨c8, H⟩ := H
   obtain ⟨ad9, rfl, e9_0⟩ := Kd.at_string gp0 x4 (of_eq_true c7) (of_eq_true c8)
   have e9_0_9 := HS.keepc e9_0
   replace H := zbind H; obtain ⟨t10, ht10, H⟩ := H
   go_upto_if 16 with ((with_reducible refine gd 16 rfl ?_); refine ev_callv rfl Tryz.func83 (by kernel_rfl) rfl #[.string (rdOf ByteArray.empty a0 x4)] #[.string (rdOf ByteArray.empty a0 x4)] rfl rfl (by simp only [mpn]; rfl) (by first | rfl | simp) ?_; refine (impl_textsOk_1.calls ht10.out).mono ?_; rintro _ wt10 ⟨rfl, HQ⟩; refine ⟨_, rfl, ?_⟩; replace HS := HS.call HQ; clear HQ; (try clear F); (try simp only [hpn, hpm] at HS))
   replace H := zifb H; rcases H with ⟨c12, H⟩ | ⟨c12, H⟩
   case inl =>
    subst c12
    (try simp only [dcn, dcu, dcf])
    obtain rfl := zsome H
    go_wp2
    go_ret
    exact HS.pk
   subst c12
   (try simp only [dcn, dcu, dcf])
   go_wp2
   go_roundg k3
   case measure => have := HKk3.out; omega
   case rel => exact ⟨_, rfl, H, ⟨by have := HKk3.out; omega⟩, HS.pick [] (by decide) (by rfl)⟩
def slices_ContainsFunc_string_string_0.f (k : Nat) (a0 : (List ByteArray)) : Option (Bool) := ((slices_IndexFunc_string_string_0.f k a0).bind fun t1 => (some (decide (0 ≤ t1))))
theorem slices_ContainsFunc_string_string_0.calls {k : Nat} {a0 : (List ByteArray)} {Ap0 : Option Addr} {np0 cp0 : Nat} {r : Bool} {w : World} (h : slices_ContainsFunc_string_string_0.f k a0 = some r) (gp0 : Kd.string.C w Ap0 np0 a0) (lp0 : np0 ≤ cp0) :
    Calls Tryz.prog 82 #[.slice Ap0 np0 cp0, .func (.func 83) #[] #[]] w (fun e w' => e = .returned (.bool r) ∧ Hp noFP w w' []) := by
 obtain rfl := C_len gp0
 have HS := Hp.start w
 have H := Aside0.mk h
 clear h
 unfold slices_ContainsFunc_string_string_0.f at H
 go_enter Tryz.func82, Tryz.ntmps82
 replace H := zbind H; obtain ⟨t1, ht1, H⟩ := H
 obtain rfl := zsome H
 go_wp2_with ((with_reducible refine gd 7 rfl ?_); refine ev_cl HS (slices_IndexFunc_string_string_0.calls ht1.out (HS.ro gp0) lp0) Tryz.func108 ?_; clear HS; intro wt1 HS F)
 go_ret
 exact HS.pk
def impl_textsOk.f (k : Nat) (a0 : (List ByteArray)) (a1 : Int) : Option (Bool) := (if (a0.length : Int) ≤ a1 then ((slices_ContainsFunc_string_string_0.f k a0).bind fun t2 => (some (!t2))) else (some false))
theorem impl_textsOk.calls {k : Nat} {a0 : (List ByteArray)} {a1 : Int} {Ap0 : Option Addr} {np0 cp0 : Nat} {r : Bool} {w : World} (h : impl_textsOk.f k a0 a1 = some r) (gp0 : Kd.string.C w Ap0 np0 a0) (lp0 : np0 ≤ cp0) :
    Calls Tryz.prog 51 #[.slice Ap0 np0 cp0, .int .i64 a1] w (fun e w' => e = .returned (.bool r) ∧ Hp noFP w w' []) := by
 obtain rfl := C_len gp0
 have HS := Hp.start w
 have H := Aside0.mk h
 clear h
 unfold impl_textsOk.f at H
 go_enter Tryz.func51, Tryz.ntmps51
 replace H := znif H; rcases H with ⟨c1, H⟩ | ⟨c1, H⟩
 case inl =>
  obtain rfl := zsome H
  go_wp2
  go_ret
  exact HS.pk
 replace H := zbind H; obtain ⟨t2, ht2, H⟩ := H
 obtain rfl := zsome H
 go_wp2_with ((with_reducible refine gd 11 rfl ?_); refine gg ?_; refine ev_cl HS (slices_ContainsFunc_string_string_0.calls ht2.out (HS.ro gp0) lp0) Tryz.func82 ?_; clear HS; intro wt2 HS F)
 go_ret
 exact HS.pk
def impl_within.f (a0 : Int) (a1 : Int) (a2 : Int) : Option (Bool) := (if a1 ≤ a0 then (some (decide (a0 ≤ a2))) else (some false))
theorem impl_within.calls {a0 : Int} {a1 : Int} {a2 : Int} {r : Bool} {w : World} (h : impl_within.f a0 a1 a2 = some r) :
    Calls Tryz.prog 52 #[.int .i64 a0, .int .i64 a1, .int .i64 a2] w (fun e w' => e = .returned (.bool r) ∧ Hp noFP w w' []) := by
 have HS := Hp.start w
 have H := Aside0.mk h
 clear h
 unfold impl_within.f at H
 go_enter Tryz.func52, Tryz.ntmps52
 replace H := zif H; rcases H with ⟨c1, H⟩ | ⟨c1, H⟩
 case inl =>
  obtain rfl := zsome H
  go_wp2
  go_ret
  exact HS.pk
 obtain rfl := zsome H
 go_wp2
 go_ret
 exact HS.pk
def impl_timeOk.f (a0 : Int) : Option (Bool) := ((impl_within.f a0 0 9999).bind fun t1 => (some t1))
theorem impl_timeOk.calls {a0 : Int} {r : Bool} {w : World} (h : impl_timeOk.f a0 = some r) :
    Calls Tryz.prog 53 #[.int .i64 a0] w (fun e w' => e = .returned (.bool r) ∧ Hp noFP w w' []) := by
 have HS := Hp.start w
 have H := Aside0.mk h
 clear h
 unfold impl_timeOk.f at H
 go_enter Tryz.func53, Tryz.ntmps53
 replace H := zbind H; obtain ⟨t1, ht1, H⟩ := H
 obtain rfl := zsome H
 go_wp2_with ((with_reducible refine gd 4 rfl ?_); refine ev_cl HS (impl_within.calls ht1.out) Tryz.func52 ?_; clear HS; intro wt1 HS F)
 go_ret
 exact HS.pk
def impl_AskOk.f (k : Nat) (a0 : S26) : Option (Bool) := (if 1 ≤ (a0.f0.length : Int) then ((impl_textsOk.f k a0.f0 3).bind fun t4 => (if t4 = true then ((impl_within.f a0.f1 0 99).bind fun t7 => (if t7 = true then ((impl_within.f a0.f2 0 3).bind fun t10 => (if t10 = true then ((impl_within.f a0.f3 0 1000000000).bind fun t13 => (if t13 = true then ((impl_timeOk.f a0.f4).bind fun t16 => (some t16)) else (some false))) else (some false))) else (some false))) else (some false))) else (some false))
theorem impl_AskOk.calls {k : Nat} {a0 : S26} {Ap0 : Option Addr} {np0 cp0 : Nat} {r : Bool} {w : World} (h : impl_AskOk.f k a0 = some r) (gp0 : Kd.string.C w Ap0 np0 a0.f0) (lp0 : np0 ≤ cp0) :
    Calls Tryz.prog 12 #[.agg #[.slice Ap0 np0 cp0, .int .i64 a0.f1, .int .i64 a0.f2, .int .i64 a0.f3, .int .i64 a0.f4, .bool a0.f5]] w (fun e w' => e = .returned (.bool r) ∧ Hp noFP w w' []) := by
 obtain rfl := C_len gp0
 have HS := Hp.start w
 have H := Aside0.mk h
 clear h
 unfold impl_AskOk.f at H
 go_enter Tryz.func12, Tryz.ntmps12
 replace H := znif H; rcases H with ⟨c3, H⟩ | ⟨c3, H⟩
 case inl =>
  obtain rfl := zsome H
  go_wp2_with ((with_reducible refine gd 1 rfl ?_); refine ev_bx HS ?_; clear HS; intro g1 w1 HS F)
  go_ret
  exact HS.pk
 replace H := zbind H; obtain ⟨t4, ht4, H⟩ := H
 replace H := znifb H; rcases H with ⟨c6, H⟩ | ⟨c6, H⟩
 case inl =>
  subst c6
  obtain rfl := zsome H
  go_wp2_with (first | ((with_reducible refine gd 1 rfl ?_); refine ev_bx HS ?_; clear HS; intro g1 w1 HS F) | ((with_reducible refine gd 10 rfl ?_); refine gg ?_; refine ev_cl HS (impl_textsOk.calls ht4.out (HS.ro gp0) lp0) Tryz.func51 ?_; clear HS; intro wt4 HS F))
  go_ret
  exact HS.pk
 subst c6
 replace H := zbind H; obtain ⟨t7, ht7, H⟩ := H
 replace H := znifb H; rcases H with ⟨c9, H⟩ | ⟨c9, H⟩
 case inl =>
  subst c9
  obtain rfl := zsome H
  go_wp2_with (first | ((with_reducible refine gd 1 rfl ?_); refine ev_bx HS ?_; clear HS; intro g1 w1 HS F) | ((with_reducible refine gd 10 rfl ?_); refine gg ?_; refine ev_cl HS (impl_textsOk.calls ht4.out (HS.ro gp0) lp0) Tryz.func51 ?_; clear HS; intro wt4 HS F) | ((with_reducible refine gd 15 rfl ?_); refine gg ?_; refine ev_cl HS (impl_within.calls ht7.out) Tryz.func52 ?_; clear HS; intro wt7 HS F))
  go_ret
  exact HS.pk
 subst c9
 replace H := zbind H; obtain ⟨t10, ht10, H⟩ := H
 replace H := znifb H; rcases H with ⟨c12, H⟩ | ⟨c12, H⟩
 case inl =>
  subst c12
  obtain rfl := zsome H
  go_wp2_with (first | ((with_reducible refine gd 1 rfl ?_); refine ev_bx HS ?_; clear HS; intro g1 w1 HS F) | ((with_reducible refine gd 10 rfl ?_); refine gg ?_; refine ev_cl HS (impl_textsOk.calls ht4.out (HS.ro gp0) lp0) Tryz.func51 ?_; clear HS; intro wt4 HS F) | ((with_reducible refine gd 15 rfl ?_); refine gg ?_; refine ev_cl HS (impl_within.calls ht7.out) Tryz.func52 ?_; clear HS; intro wt7 HS F) | ((with_reducible refine gd 20 rfl ?_); refine gg ?_; refine ev_cl HS (impl_within.calls ht10.out) Tryz.func52 ?_; clear HS; intro wt10 HS F))
  go_ret
  exact HS.pk
 subst c12
 replace H := zbind H; obtain ⟨t13, ht13, H⟩ := H
 replace H := znifb H; rcases H with ⟨c15, H⟩ | ⟨c15, H⟩
 case inl =>
  subst c15
  obtain rfl := zsome H
  go_wp2_with (first | ((with_reducible refine gd 1 rfl ?_); refine ev_bx HS ?_; clear HS; intro g1 w1 HS F) | ((with_reducible refine gd 10 rfl ?_); refine gg ?_; refine ev_cl HS (impl_textsOk.calls ht4.out (HS.ro gp0) lp0) Tryz.func51 ?_; clear HS; intro wt4 HS F) | ((with_reducible refine gd 15 rfl ?_); refine gg ?_; refine ev_cl HS (impl_within.calls ht7.out) Tryz.func52 ?_; clear HS; intro wt7 HS F) | ((with_reducible refine gd 20 rfl ?_); refine gg ?_; refine ev_cl HS (impl_within.calls ht10.out) Tryz.func52 ?_; clear HS; intro wt10 HS F) | ((with_reducible refine gd 25 rfl ?_); refine gg ?_; refine ev_cl HS (impl_within.calls ht13.out) Tryz.func52 ?_; clear HS; intro wt13 HS F))
  go_ret
  exact HS.pk
 subst c15
 replace H := zbind H; obtain ⟨t16, ht16, H⟩ := H
 obtain rfl := zsome H
 go_wp2_with (first | ((with_reducible refine gd 1 rfl ?_); refine ev_bx HS ?_; clear HS; intro g1 w1 HS F) | ((with_reducible refine gd 10 rfl ?_); refine gg ?_; refine ev_cl HS (impl_textsOk.calls ht4.out (HS.ro gp0) lp0) Tryz.func51 ?_; clear HS; intro wt4 HS F) | ((with_reducible refine gd 15 rfl ?_); refine gg ?_; refine ev_cl HS (impl_within.calls ht7.out) Tryz.func52 ?_; clear HS; intro wt7 HS F) | ((with_reducible refine gd 20 rfl ?_); refine gg ?_; refine ev_cl HS (impl_within.calls ht10.out) Tryz.func52 ?_; clear HS; intro wt10 HS F) | ((with_reducible refine gd 25 rfl ?_); refine gg ?_; refine ev_cl HS (impl_within.calls ht13.out) Tryz.func52 ?_; clear HS; intro wt13 HS F) | ((with_reducible refine gd 30 rfl ?_); refine gg ?_; refine ev_cl HS (impl_timeOk.calls ht16.out) Tryz.func53 ?_; clear HS; intro wt16 HS F))
 go_ret
 exact HS.pk
def laws_sameTexts.l0 : Nat → Int → (List ByteArray) → (List ByteArray) → Option (Bool)
  | 0, _, _, _ => none
  | k + 1, x5, a0, a1 => (if x5 < (a0.length : Int) then (if 0 ≤ x5 then (if x5 < (a0.length : Int) then (if x5 < (a1.length : Int) then (if (rdOf ByteArray.empty a0 x5).toList = (rdOf ByteArray.empty a1 x5).toList then (laws_sameTexts.l0 k (wrap64 (x5 + 1)) a0 a1) else (some false)) else none) else none) else none) else (some true))
def laws_sameTexts.f (k : Nat) (a0 : (List ByteArray)) (a1 : (List ByteArray)) : Option (Bool) := (if (a0.length : Int) = (a1.length : Int) then (laws_sameTexts.l0 k 0 a0 a1) else (some false))
def laws_sameTexts.T6 : TT := (true, [([], []), ([], []), ([0, 1], [0, 1]), ([2], [2]), ([], []), ([], []), ([4, 5], [4, 5]), ([6], [6]), ([3, 7], [3, 7])])
theorem laws_sameTexts.tT6 : rtab .any (opsOf Tryz.f56 6) = laws_sameTexts.T6 := by kernel_rfl
theorem laws_sameTexts.calls {k : Nat} {a0 : (List ByteArray)} {a1 : (List ByteArray)} {Ap0 Ap1 : Option Addr} {np0 cp0 np1 cp1 : Nat} {r : Bool} {w : World} (h : laws_sameTexts.f k a0 a1 = some r) (gp0 : Kd.string.C w Ap0 np0 a0) (lp0 : np0 ≤ cp0) (gp1 : Kd.string.C w Ap1 np1 a1) (lp1 : np1 ≤ cp1) :
    Calls Tryz.prog 56 #[.slice Ap0 np0 cp0, .slice Ap1 np1 cp1] w (fun e w' => e = .returned (.bool r) ∧ Hp noFP w w' []) := by
 obtain rfl := C_len gp0
 obtain rfl := C_len gp1
 have HS := Hp.start w
 have H := Aside0.mk h
 clear h
 unfold laws_sameTexts.f at H
 go_enter Tryz.func56, Tryz.ntmps56
 replace H := znif' H; rcases H with ⟨c1, H⟩ | ⟨c1, H⟩
 case inl =>
  have c1a := beq_eq_false_iff_ne.mpr c1
  have c1b := bne_iff_ne.mpr c1
  clear c1
  obtain rfl := zsome H
  go_wp2
  go_ret
  exact HS.pk
 have c1a := beq_iff_eq.mpr c1
 have c1b := bne_eq_false_iff_eq.mpr c1
 clear c1
 go_wp2
 go_loopg [5] k (fun kq v_5 w' => ∃ (x5 : Int), v_5 = .int .i64 x5 ∧ Aside0 (laws_sameTexts.l0 kq x5 a0 a1 = some r) ∧ Aside0 (kq ≤ k) ∧ Hp noFP w w' [])
 case atStart => exact ⟨_, rfl, H, ⟨Nat.le_refl _⟩, HS⟩
 case round =>
  clear HS H; (try clear F)
  obtain ⟨x5, rfl, H, HKk4, HS⟩ := hrel
  cases gk with
  | zero => exact absurd H.out (by simp [laws_sameTexts.l0])
  | succ k4 =>
   simp only [laws_sameTexts.l0] at H
   replace H := znif H; rcases H with ⟨c7, H⟩ | ⟨c7, H⟩
   case inl =>
    obtain rfl := zsome H
    go_wp2
    go_ret
    exact HS.pk
   (try go_wp2)
   replace H := zgo H; obtain ⟨c3, H⟩ := H
   replace H := zgo H; obtain ⟨c8, H⟩ := H
   obtain ⟨ad10, rfl, e10_0⟩ := Kd.at_string gp0 x5 (of_eq_true c3) (of_eq_true c8)
   replace H := zgo H; obtain ⟨c12, H⟩ := H
   obtain ⟨ad13, rfl, e13_0⟩ := Kd.at_string gp1 x5 (of_eq_true c3) (of_eq_true c12)
   refine dr_start [] HS #[false, false, false, false, false, false, false, false, false] (by kernel_rfl) rfl rfl laws_sameTexts.tT6 (fun w9 HT HS HH => ?_)
   (try clear F)
   refine drq_of [(0, some 17), (1, some 18), (2, some 19)] ?_
   repeat (refine drp HT ?_)
   refine drq_end ?_
   refine dr_take 3 (some 20) HT HH (v := ?_) (a' := ?_) rfl rfl (by kernel_rfl) (fun _ _ _ h => h) (.inl ⟨by rfl, ?_⟩) ?_ ?_
   rotate_left
   · rintro w' ⟨rs', HS'⟩; have e10_0 := HS'.keepc e10_0; go_simp; with_reducible rfl
   rotate_left
   · simp only [Act.put, ptn]; rfl
   refine drq_of [(4, some 21), (5, some 22), (6, some 23)] ?_
   repeat (refine drp HT ?_)
   refine drq_end ?_
   refine dr_take 7 (some 24) HT HH (v := ?_) (a' := ?_) rfl rfl (by kernel_rfl) (fun _ _ _ h => h) (.inl ⟨by rfl, ?_⟩) ?_ ?_
   rotate_left
   · rintro w' ⟨rs', HS'⟩; have e13_0 := HS'.keepc e13_0; go_simp; with_reducible rfl
   rotate_left
   · simp only [Act.put, ptn]; rfl
   refine drq_of [(8, some 25)] ?_
   repeat (refine drp HT ?_)
   refine drq_end ?_
   refine done_ (done_of HT.out (by kernel_rfl)) ?_
   replace H := znif' H; rcases H with ⟨c11, H⟩ | ⟨c11, H⟩
   case inl =>
    have c11a := beq_eq_false_iff_ne.mpr c11
    have c11b := bne_iff_ne.mpr c11
    clear c11
    (try simp only [c11a, c11b, dcn])
    obtain rfl := zsome H
    go_wp2
    go_ret
    exact HS.pk
   have c11a := beq_iff_eq.mpr c11
   have c11b := bne_eq_false_iff_eq.mpr c11
   clear c11
   (try simp only [c11a, c11b, dcn])
   go_wp2
   go_roundg k4
   case measure => have := HKk4.out; omega
   case rel => exact ⟨_, rfl, H, ⟨by have := HKk4.out; omega⟩, HS.pick [] (by decide) (by rfl)⟩
def laws_sameAsk.f (k : Nat) (a0 : S26) (a1 : S26) : Option (Bool) := ((laws_sameTexts.f k a0.f0 a1.f0).bind fun t5 => (if t5 = true then (if a0.f1 = a1.f1 then (if a0.f2 = a1.f2 then (if a0.f3 = a1.f3 then (if a0.f4 = a1.f4 then (some (a0.f5 == a1.f5)) else (some false)) else (some false)) else (some false)) else (some false)) else (some false)))
theorem laws_sameAsk.calls {k : Nat} {a0 : S26} {a1 : S26} {Ap0 Ap1 : Option Addr} {np0 cp0 np1 cp1 : Nat} {r : Bool} {w : World} (h : laws_sameAsk.f k a0 a1 = some r) (gp0 : Kd.string.C w Ap0 np0 a0.f0) (lp0 : np0 ≤ cp0) (gp1 : Kd.string.C w Ap1 np1 a1.f0) (lp1 : np1 ≤ cp1) :
    Calls Tryz.prog 14 #[.agg #[.slice Ap0 np0 cp0, .int .i64 a0.f1, .int .i64 a0.f2, .int .i64 a0.f3, .int .i64 a0.f4, .bool a0.f5], .agg #[.slice Ap1 np1 cp1, .int .i64 a1.f1, .int .i64 a1.f2, .int .i64 a1.f3, .int .i64 a1.f4, .bool a1.f5]] w (fun e w' => e = .returned (.bool r) ∧ Hp noFP w w' []) := by
 obtain rfl := C_len gp0
 obtain rfl := C_len gp1
 have HS := Hp.start w
 have H := Aside0.mk h
 clear h
 unfold laws_sameAsk.f at H
 go_enter Tryz.func14, Tryz.ntmps14
 replace H := zbind H; obtain ⟨t5, ht5, H⟩ := H
 replace H := znifb H; rcases H with ⟨c7, H⟩ | ⟨c7, H⟩
 case inl =>
  subst c7
  obtain rfl := zsome H
  go_wp2_with (first | ((with_reducible refine gd 2 rfl ?_); refine ev_bx HS ?_; clear HS; intro g2 w2 HS F) | ((with_reducible refine gd 3 rfl ?_); refine ev_bx HS ?_; clear HS; intro g3 w3 HS F) | ((with_reducible refine gd 9 rfl ?_); refine ev_cl HS (laws_sameTexts.calls ht5.out (HS.ro gp0) lp0 (HS.ro gp1) lp1) Tryz.func56 ?_; clear HS; intro wt5 HS F))
  go_ret
  exact HS.pk
 subst c7
 replace H := znif' H; rcases H with ⟨c8, H⟩ | ⟨c8, H⟩
 case inl =>
  have c8a := beq_eq_false_iff_ne.mpr c8
  have c8b := bne_iff_ne.mpr c8
  clear c8
  obtain rfl := zsome H
  go_wp2_with (first | ((with_reducible refine gd 2 rfl ?_); refine ev_bx HS ?_; clear HS; intro g2 w2 HS F) | ((with_reducible refine gd 3 rfl ?_); refine ev_bx HS ?_; clear HS; intro g3 w3 HS F) | ((with_reducible refine gd 9 rfl ?_); refine ev_cl HS (laws_sameTexts.calls ht5.out (HS.ro gp0) lp0 (HS.ro gp1) lp1) Tryz.func56 ?_; clear HS; intro wt5 HS F))
  go_ret
  exact HS.pk
 have c8a := beq_iff_eq.mpr c8
 have c8b := bne_eq_false_iff_eq.mpr c8
 clear c8
 replace H := znif' H; rcases H with ⟨c9, H⟩ | ⟨c9, H⟩
 case inl =>
  have c9a := beq_eq_false_iff_ne.mpr c9
  have c9b := bne_iff_ne.mpr c9
  clear c9
  obtain rfl := zsome H
  go_wp2_with (first | ((with_reducible refine gd 2 rfl ?_); refine ev_bx HS ?_; clear HS; intro g2 w2 HS F) | ((with_reducible refine gd 3 rfl ?_); refine ev_bx HS ?_; clear HS; intro g3 w3 HS F) | ((with_reducible refine gd 9 rfl ?_); refine ev_cl HS (laws_sameTexts.calls ht5.out (HS.ro gp0) lp0 (HS.ro gp1) lp1) Tryz.func56 ?_; clear HS; intro wt5 HS F))
  go_ret
  exact HS.pk
 have c9a := beq_iff_eq.mpr c9
 have c9b := bne_eq_false_iff_eq.mpr c9
 clear c9
 replace H := znif' H; rcases H with ⟨c10, H⟩ | ⟨c10, H⟩
 case inl =>
  have c10a := beq_eq_false_iff_ne.mpr c10
  have c10b := bne_iff_ne.mpr c10
  clear c10
  obtain rfl := zsome H
  go_wp2_with (first | ((with_reducible refine gd 2 rfl ?_); refine ev_bx HS ?_; clear HS; intro g2 w2 HS F) | ((with_reducible refine gd 3 rfl ?_); refine ev_bx HS ?_; clear HS; intro g3 w3 HS F) | ((with_reducible refine gd 9 rfl ?_); refine ev_cl HS (laws_sameTexts.calls ht5.out (HS.ro gp0) lp0 (HS.ro gp1) lp1) Tryz.func56 ?_; clear HS; intro wt5 HS F))
  go_ret
  exact HS.pk
 have c10a := beq_iff_eq.mpr c10
 have c10b := bne_eq_false_iff_eq.mpr c10
 clear c10
 replace H := znif' H; rcases H with ⟨c11, H⟩ | ⟨c11, H⟩
 case inl =>
  have c11a := beq_eq_false_iff_ne.mpr c11
  have c11b := bne_iff_ne.mpr c11
  clear c11
  obtain rfl := zsome H
  go_wp2_with (first | ((with_reducible refine gd 2 rfl ?_); refine ev_bx HS ?_; clear HS; intro g2 w2 HS F) | ((with_reducible refine gd 3 rfl ?_); refine ev_bx HS ?_; clear HS; intro g3 w3 HS F) | ((with_reducible refine gd 9 rfl ?_); refine ev_cl HS (laws_sameTexts.calls ht5.out (HS.ro gp0) lp0 (HS.ro gp1) lp1) Tryz.func56 ?_; clear HS; intro wt5 HS F))
  go_ret
  exact HS.pk
 have c11a := beq_iff_eq.mpr c11
 have c11b := bne_eq_false_iff_eq.mpr c11
 clear c11
 obtain rfl := zsome H
 go_wp2_with (first | ((with_reducible refine gd 2 rfl ?_); refine ev_bx HS ?_; clear HS; intro g2 w2 HS F) | ((with_reducible refine gd 3 rfl ?_); refine ev_bx HS ?_; clear HS; intro g3 w3 HS F) | ((with_reducible refine gd 9 rfl ?_); refine ev_cl HS (laws_sameTexts.calls ht5.out (HS.ro gp0) lp0 (HS.ro gp1) lp1) Tryz.func56 ?_; clear HS; intro wt5 HS F))
 go_ret
 exact HS.pk
def laws_big.f (a0 : (List Int)) : Option (Bool) := (some (decide (1048576 < (a0.length : Int))))
theorem laws_big.calls {a0 : (List Int)} {Ap0 : Option Addr} {np0 cp0 : Nat} {r : Bool} {w : World} (h : laws_big.f a0 = some r) (gp0 : (Kd.int .u8).C w Ap0 np0 a0) (lp0 : np0 ≤ cp0) :
    Calls Tryz.prog 5 #[.slice Ap0 np0 cp0] w (fun e w' => e = .returned (.bool r) ∧ Hp noFP w w' []) := by
 obtain rfl := C_len gp0
 have HS := Hp.start w
 have H := Aside0.mk h
 clear h
 unfold laws_big.f at H
 go_enter Tryz.func5, Tryz.ntmps5
 obtain rfl := zsome H
 go_wp2
 go_ret
 exact HS.pk
def spec_DrawAskText.f (k : Nat) (a0 : (List Int)) : Option (S26) := ((spec_l01New.f k a0).bind fun t3 => ((spec_l14Any_0.f k (⟨a0, t3.f1, t3.f2⟩ : S110)).bind fun t6 => (some (⟨t6.1.f0, t6.1.f1, t6.1.f2, t6.1.f3, t6.1.f4, t6.1.f5⟩ : S26))))
theorem spec_DrawAskText.calls {k : Nat} {a0 : (List Int)} {Ap0 : Option Addr} {np0 cp0 : Nat} {r : S26} {w : World} (h : spec_DrawAskText.f k a0 = some r) (gp0 : (Kd.int .u8).C w Ap0 np0 a0) (lp0 : np0 ≤ cp0) :
    Calls Tryz.prog 6 #[.slice Ap0 np0 cp0] w (fun e w' => ∃ v0_ : Value, e = .returned (.agg #[v0_, .int .i64 r.f1, .int .i64 r.f2, .int .i64 r.f3, .int .i64 r.f4, .bool r.f5]) ∧ Hp noFP w w' [.own (Zd.slice 9 Zd.string) r.f0 [v0_]]) := by
 obtain rfl := C_len gp0
 have HS := Hp.start w
 have H := Aside0.mk h
 clear h
 unfold spec_DrawAskText.f at H
 go_enter Tryz.func6, Tryz.ntmps6
 replace H := zbind H; obtain ⟨t3, ht3, H⟩ := H
 replace H := zbind H; obtain ⟨t6, ht6, H⟩ := H
 obtain rfl := zsome H
 go_wp2_with (first | ((with_reducible refine gd 2 rfl ?_); refine ev_bx HS ?_; clear HS; intro g2 w2 HS F) | ((with_reducible refine gd 4 rfl ?_); refine ev_call rfl Tryz.func29 (by kernel_rfl) rfl #[.slice Ap0 a0.length cp0] rfl (by simp only [mpn]; rfl) ?_; refine (spec_l01New.calls ht3.out (HS.ro gp0) lp0).mono ?_; rintro _ wt3 ⟨g4, rfl, HQ⟩; refine ⟨_, rfl, ?_⟩; replace HS := HS.call HQ; clear HQ; (try clear F); (try simp only [hpn, hpm] at HS); have F := HS.boxes; simp only [bxn] at F) | ((with_reducible refine gd 5 rfl ?_); refine HS.lend [1] (by decide) [.box g4 [.slice Ap0 a0.length cp0, .int .i64 t3.f1, .int .i64 t3.f2] 110] rfl (fun A' HL HD HA HB => ?_); refine ev_call rfl Tryz.func28 (by kernel_rfl) rfl #[.pointer (some ⟨g4, 0, none⟩)] rfl (by simp only [mpn]; rfl) ?_; refine (spec_l14Any_0.calls ht6.out gp0 lp0 (HS.view HL) HA).mono ?_; rintro _ wt6 ⟨v7, rfl, HQ⟩; refine ⟨_, rfl, ?_⟩; replace HS := HB _ _ HQ (Nat.le_of_ble_eq_true rfl); clear HQ HA HB HL HD; (try simp only [hpn, hpm] at HS); (try clear F); obtain ⟨B7, d7, rfl, m7⟩ := HS.form 2 rfl; (try simp only [hpn, hpm] at HS); have F := HS.boxes; simp only [bxn] at F) | ((with_reducible refine gate_store (p := 2) rfl ?_); refine ev_st 0 0 HS (seg := [.slice B7 t6.1.f0.length d7, .int .i64 t6.1.f1, .int .i64 t6.1.f2, .int .i64 t6.1.f3, .int .i64 t6.1.f4, .bool t6.1.f5]) ?_; clear HS; intro w9 HS F))
 exact bodyPost_ret (results_single rfl (.cell _ _ _ _ _ rfl (HS.boxAt (i := 0) rfl) Tryz.underlying26 rfl (by kernel_rfl) .nil)) rfl ⟨_, rfl, HS.pick [2] (by decide) (by rfl)⟩
def impl_bytesIn.l0 : Nat → Int → ByteArray → Int → Int → Option (Bool)
  | 0, _, _, _, _ => none
  | k + 1, x4, a0, a1, a2 => (if x4 < (a0.size : Int) then (if 0 ≤ x4 then (if x4 < (a0.size : Int) then ((impl_within.f (wrap64 (bt a0 x4)) a1 a2).bind fun t10 => (if t10 = true then (impl_bytesIn.l0 k (wrap64 (x4 + 1)) a0 a1 a2) else (some false))) else none) else none) else (some true))
def impl_bytesIn.f (k : Nat) (a0 : ByteArray) (a1 : Int) (a2 : Int) : Option (Bool) := (impl_bytesIn.l0 k 0 a0 a1 a2)
theorem impl_bytesIn.calls {k : Nat} {a0 : ByteArray} {a1 : Int} {a2 : Int} {r : Bool} {w : World} (h : impl_bytesIn.f k a0 a1 a2 = some r) :
    Calls Tryz.prog 124 #[.string a0, .int .i64 a1, .int .i64 a2] w (fun e w' => e = .returned (.bool r) ∧ Hp noFP w w' []) := by
 have HS := Hp.start w
 have H := Aside0.mk h
 clear h
 unfold impl_bytesIn.f at H
 go_enter Tryz.func124, Tryz.ntmps124
 go_wp2
 go_loopg [7] k (fun kq v_7 w' => ∃ (x4 : Int), v_7 = .int .i64 x4 ∧ Aside0 (impl_bytesIn.l0 kq x4 a0 a1 a2 = some r) ∧ Aside0 (kq ≤ k) ∧ Hp noFP w w' [])
 case atStart => exact ⟨_, rfl, H, ⟨Nat.le_refl _⟩, HS⟩
 case round =>
  clear HS H; (try clear F)
  obtain ⟨x4, rfl, H, HKk3, HS⟩ := hrel
  cases gk with
  | zero => exact absurd H.out (by simp [impl_bytesIn.l0])
  | succ k3 =>
   simp only [impl_bytesIn.l0] at H
   replace H := znif H; rcases H with ⟨c6, H⟩ | ⟨c6, H⟩
   case inl =>
    obtain rfl := zsome H
    go_wp2
    go_ret
    exact HS.pk
   replace H := zgo H; obtain ⟨c7, H⟩ := H
   replace H := zgo H; obtain ⟨c8, H⟩ := H
   have hx9 := bt_at a0 x4
   replace H := zbind H; obtain ⟨t10, ht10, H⟩ := H
   go_upto_if 21 with ((with_reducible refine gd 20 rfl ?_); refine ev_cl HS (impl_within.calls ht10.out) Tryz.func52 ?_; clear HS; intro wt10 HS F)
   replace H := znifb H; rcases H with ⟨c12, H⟩ | ⟨c12, H⟩
   case inl =>
    subst c12
    (try simp only [dcn, dcu, dcf])
    obtain rfl := zsome H
    go_wp2
    go_ret
    exact HS.pk
   subst c12
   (try simp only [dcn, dcu, dcf])
   go_wp2
   go_roundg k3
   case measure => have := HKk3.out; omega
   case rel => exact ⟨_, rfl, H, ⟨by have := HKk3.out; omega⟩, HS.pick [] (by decide) (by rfl)⟩
mutual
def impl_itemOk.l0 : Nat → Int → S66 → Int → Option (Bool)
  | 0, _, _, _ => none
  | k + 1, x10, a0, a1 => (if x10 < (a0.f2.length : Int) then (if 0 ≤ x10 then (if x10 < (a0.f2.length : Int) then ((impl_itemOk.f k (rd_T66 a0.f2 x10) (wrap64 (a1 + 1))).bind fun t20 => (if t20 = true then (impl_itemOk.l0 k (wrap64 (x10 + 1)) a0 a1) else (some false))) else none) else none) else (some true))
def impl_itemOk.f : Nat → S66 → Int → Option (Bool)
  | 0, _, _ => none
  | k + 1, a0, a1 => (if a0.f0 = 48 then (if a0.f1.toList = ([] : List UInt8) then (if 40 < (a0.f2.length : Int) then (some false) else (if 6 ≤ a1 then (some false) else (impl_itemOk.l0 k 0 a0 a1))) else (some false)) else (if 0 < (a0.f2.length : Int) then (some false) else (if a0.f0 = 1 then (if a0.f1.toList = ([0] : List UInt8) then (some true) else (some (a0.f1.toList == ([255] : List UInt8)))) else (if a0.f0 = 2 then ((impl_within.f (a0.f1.size : Int) 1 5).bind fun t27 => (if t27 = true then (if 0 < (a0.f1.size : Int) then (if (bt a0.f1 0) < 128 then (if (bt a0.f1 0) = 0 then (if (a0.f1.size : Int) = 1 then (some true) else (if 1 < (a0.f1.size : Int) then (some (decide (128 ≤ (bt a0.f1 1)))) else none)) else (some true)) else (some false)) else none) else (some false))) else (if a0.f0 = 4 then (some true) else (if a0.f0 = 12 then ((impl_bytesIn.f k a0.f1 32 126).bind fun t43 => (some t43)) else (some false)))))))
end
theorem impl_itemOk.calls_ (K : Nat) : ∀ {k : Nat} (hK : k ≤ K) {a0 : S66} {a1 : Int} {Ap0 : Option Addr} {np0 cp0 : Nat} {r : Bool} {w : World} (h : impl_itemOk.f k a0 a1 = some r) (gp0 : k66.C w Ap0 np0 a0.f2) (lp0 : np0 ≤ cp0),
    Calls Tryz.prog 101 #[.agg #[.int .i64 a0.f0, .string a0.f1, .slice Ap0 np0 cp0], .int .i64 a1] w (fun e w' => e = .returned (.bool r) ∧ Hp noFP w w' []) := by
  induction K with
  | zero =>
    intro k hK a0 a1 Ap0 np0 cp0 r w h gp0 lp0
    obtain rfl : k = 0 := by omega
    exact absurd h (by simp [impl_itemOk.f])
  | succ K IH =>
    intro k hK a0 a1 Ap0 np0 cp0 r w h gp0 lp0
    cases k with
    | zero => exact absurd h (by simp [impl_itemOk.f])
    | succ k =>
    have HK0 : Aside0 (k ≤ K) := ⟨by omega⟩
    clear hK
    obtain rfl := C_len gp0
    have HS := Hp.start w
    have H := Aside0.mk h
    clear h
    simp only [impl_itemOk.f] at H
    go_enter Tryz.func101, Tryz.ntmps101
    go_upto_if 10 with ((with_reducible refine gd 2 rfl ?_); refine ev_bx HS ?_; clear HS; intro g2 w2 HS F)
    replace H := zif' H; rcases H with ⟨c3, H⟩ | ⟨c3, H⟩
    case inl =>
     have c3a := beq_iff_eq.mpr c3
     have c3b := bne_eq_false_iff_eq.mpr c3
     clear c3
     (try simp only [c3a, c3b, dcn])
     replace H := znif' H; rcases H with ⟨c4, H⟩ | ⟨c4, H⟩
     case inl =>
      have c4a := beq_eq_false_iff_ne.mpr c4
      have c4b := bne_iff_ne.mpr c4
      have c4e := List.isEmpty_eq_false_iff.mpr c4
      clear c4
      obtain rfl := zsome H
      go_wp2
      go_ret
      exact HS.pk
     have c4a := beq_iff_eq.mpr c4
     have c4b := bne_eq_false_iff_eq.mpr c4
     have c4e := List.isEmpty_iff.mpr c4
     clear c4
     replace H := zif H; rcases H with ⟨c5, H⟩ | ⟨c5, H⟩
     case inl =>
      obtain rfl := zsome H
      go_wp2
      go_ret
      exact HS.pk
     replace H := zif H; rcases H with ⟨c6, H⟩ | ⟨c6, H⟩
     case inl =>
      obtain rfl := zsome H
      go_wp2
      go_ret
      exact HS.pk
     go_wp2
     go_loopg [27] k (fun kq v_27 w' => ∃ (x10 : Int), v_27 = .int .i64 x10 ∧ Aside0 (impl_itemOk.l0 kq x10 a0 a1 = some r) ∧ Aside0 (kq ≤ k) ∧ Hp noFP w w' [.box g2 [.int .i64 a0.f0, .string a0.f1, .slice Ap0 a0.f2.length cp0] 66])
     case atStart => exact ⟨_, rfl, H, ⟨Nat.le_refl _⟩, HS⟩
     case round =>
      clear HS H; (try clear F)
      obtain ⟨x10, rfl, H, HKk9, HS⟩ := hrel
      have F := HS.boxes; simp only [bxn] at F
      cases gk with
      | zero => exact absurd H.out (by simp [impl_itemOk.l0])
      | succ k9 =>
       simp only [impl_itemOk.l0] at H
       replace H := znif H; rcases H with ⟨c12, H⟩ | ⟨c12, H⟩
       case inl =>
        obtain rfl := zsome H
        go_wp2
        go_ret
        exact HS.pk
       replace H := zgo H; obtain ⟨c13, H⟩ := H
       replace H := zgo H; obtain ⟨c14, H⟩ := H
       obtain ⟨ad15, B15_2, d15_2, rfl, e15_0, e15_1, e15_2, m15_2, y15_2⟩ := at_T66 gp0 x10 (of_eq_true c13) (of_eq_true c14)
       have e15_0_15 := HS.keepc e15_0
       have e15_1_15 := HS.keepc e15_1
       have e15_2_15 := HS.keepc e15_2
       replace H := zbind H; obtain ⟨t20, ht20, H⟩ := H
       go_upto_if 35 with (first | ((with_reducible refine gd 6 rfl ?_); refine ev_bx HS ?_; clear HS; intro g6 w6 HS F) | ((with_reducible refine gate_store (p := 6) rfl ?_); refine ev_st 1 0 HS (seg := [.int .i64 ((rd_T66 a0.f2 x10).f0), .string ((rd_T66 a0.f2 x10).f1), .slice B15_2 (rd_T66 a0.f2 x10).f2.length d15_2]) ?_; clear HS; intro w18 HS F) | ((with_reducible refine gd 34 rfl ?_); refine ev_cl HS (IH (by have := HK0.out; have := HKk9.out; omega) ht20.out (HS.ro y15_2) m15_2) Tryz.func101 ?_; clear HS; intro wt20 HS F))
       replace H := znifb H; rcases H with ⟨c22, H⟩ | ⟨c22, H⟩
       case inl =>
        subst c22
        (try simp only [dcn, dcu, dcf])
        obtain rfl := zsome H
        go_wp2
        go_ret
        exact HS.pk
       subst c22
       (try simp only [dcn, dcu, dcf])
       go_wp2
       go_roundg k9
       case measure => have := HK0.out; have := HKk9.out; omega
       case rel => exact ⟨_, rfl, H, ⟨by have := HK0.out; have := HKk9.out; omega⟩, HS.pick [0] (by decide) (by rfl)⟩
    have c3a := beq_eq_false_iff_ne.mpr c3
    have c3b := bne_iff_ne.mpr c3
    clear c3
    (try simp only [c3a, c3b, dcn])
    replace H := zif H; rcases H with ⟨c23, H⟩ | ⟨c23, H⟩
    case inl =>
     have c23n := (propext (Int.natCast_pos (n := a0.f2.length))).symm.trans c23
     obtain rfl := zsome H
     go_wp2
     go_ret
     exact HS.pk
    have c23n := (propext (Int.natCast_pos (n := a0.f2.length))).symm.trans c23
    replace H := zif' H; rcases H with ⟨c24, H⟩ | ⟨c24, H⟩
    case inl =>
     have c24a := beq_iff_eq.mpr c24
     have c24b := bne_eq_false_iff_eq.mpr c24
     clear c24
     replace H := znif' H; rcases H with ⟨c25, H⟩ | ⟨c25, H⟩
     case inl =>
      have c25a := beq_eq_false_iff_ne.mpr c25
      have c25b := bne_iff_ne.mpr c25
      clear c25
      obtain rfl := zsome H
      go_wp2
      go_ret
      exact HS.pk
     have c25a := beq_iff_eq.mpr c25
     have c25b := bne_eq_false_iff_eq.mpr c25
     clear c25
     obtain rfl := zsome H
     go_wp2
     go_ret
     exact HS.pk
    have c24a := beq_eq_false_iff_ne.mpr c24
    have c24b := bne_iff_ne.mpr c24
    clear c24
    replace H := znif' H; rcases H with ⟨c26, H⟩ | ⟨c26, H⟩
    case inl =>
     have c26a := beq_eq_false_iff_ne.mpr c26
     have c26b := bne_iff_ne.mpr c26
     clear c26
     replace H := zif' H; rcases H with ⟨c41, H⟩ | ⟨c41, H⟩
     case inl =>
      have c41a := beq_iff_eq.mpr c41
      have c41b := bne_eq_false_iff_eq.mpr c41
      clear c41
      obtain rfl := zsome H
      go_wp2
      go_ret
      exact HS.pk
     have c41a := beq_eq_false_iff_ne.mpr c41
     have c41b := bne_iff_ne.mpr c41
     clear c41
     replace H := znif' H; rcases H with ⟨c42, H⟩ | ⟨c42, H⟩
     case inl =>
      have c42a := beq_eq_false_iff_ne.mpr c42
      have c42b := bne_iff_ne.mpr c42
      clear c42
      obtain rfl := zsome H
      go_wp2
      go_ret
      exact HS.pk
     have c42a := beq_iff_eq.mpr c42
     have c42b := bne_eq_false_iff_eq.mpr c42
     clear c42
     replace H := zbind H; obtain ⟨t43, ht43, H⟩ := H
     obtain rfl := zsome H
     go_wp2_with ((with_reducible refine gd 88 rfl ?_); refine ev_cl HS (impl_bytesIn.calls ht43.out) Tryz.func124 ?_; clear HS; intro wt43 HS F)
     go_ret
     exact HS.pk
    have c26a := beq_iff_eq.mpr c26
    have c26b := bne_eq_false_iff_eq.mpr c26
    clear c26
    replace H := zbind H; obtain ⟨t27, ht27, H⟩ := H
    replace H := znifb H; rcases H with ⟨c29, H⟩ | ⟨c29, H⟩
    case inl =>
     subst c29
     obtain rfl := zsome H
     go_wp2_with ((with_reducible refine gd 59 rfl ?_); refine ev_cl HS (impl_within.calls ht27.out) Tryz.func52 ?_; clear HS; intro wt27 HS F)
     go_ret
     exact HS.pk
    subst c29
    replace H := zgo H; obtain ⟨c30, H⟩ := H
    have c30n : (0 < a0.f1.size) = True := eq_true (by have := of_eq_true c30; omega)
    replace H := znif H; rcases H with ⟨c33, H⟩ | ⟨c33, H⟩
    case inl =>
     obtain rfl := zsome H
     go_wp2_with ((with_reducible refine gd 59 rfl ?_); refine ev_cl HS (impl_within.calls ht27.out) Tryz.func52 ?_; clear HS; intro wt27 HS F; have hx31 : ∀ h : 0 < a0.f1.size, ((a0.f1[0]'h).toNat : Int) = bt a0.f1 0 := bt_at a0.f1 0; have hz32 : 0 < a0.f1.size := (by have := of_eq_true c30; omega))
     go_ret
     exact HS.pk
    replace H := znif' H; rcases H with ⟨c36, H⟩ | ⟨c36, H⟩
    case inl =>
     have c36a := beq_eq_false_iff_ne.mpr c36
     have c36b := bne_iff_ne.mpr c36
     clear c36
     obtain rfl := zsome H
     go_wp2_with ((with_reducible refine gd 59 rfl ?_); refine ev_cl HS (impl_within.calls ht27.out) Tryz.func52 ?_; clear HS; intro wt27 HS F; have hx31 : ∀ h : 0 < a0.f1.size, ((a0.f1[0]'h).toNat : Int) = bt a0.f1 0 := bt_at a0.f1 0; have hz32 : 0 < a0.f1.size := (by have := of_eq_true c30; omega); have hx34 : ∀ h : 0 < a0.f1.size, ((a0.f1[0]'h).toNat : Int) = bt a0.f1 0 := bt_at a0.f1 0; have hz35 : 0 < a0.f1.size := (by have := of_eq_true c30; omega))
     go_ret
     exact HS.pk
    have c36a := beq_iff_eq.mpr c36
    have c36b := bne_eq_false_iff_eq.mpr c36
    clear c36
    replace H := zif' H; rcases H with ⟨c37, H⟩ | ⟨c37, H⟩
    case inl =>
     have c37a := beq_iff_eq.mpr c37
     have c37b := bne_eq_false_iff_eq.mpr c37
     clear c37
     obtain rfl := zsome H
     go_wp2_with ((with_reducible refine gd 59 rfl ?_); refine ev_cl HS (impl_within.calls ht27.out) Tryz.func52 ?_; clear HS; intro wt27 HS F; have hx31 : ∀ h : 0 < a0.f1.size, ((a0.f1[0]'h).toNat : Int) = bt a0.f1 0 := bt_at a0.f1 0; have hz32 : 0 < a0.f1.size := (by have := of_eq_true c30; omega); have hx34 : ∀ h : 0 < a0.f1.size, ((a0.f1[0]'h).toNat : Int) = bt a0.f1 0 := bt_at a0.f1 0; have hz35 : 0 < a0.f1.size := (by have := of_eq_true c30; omega))
     go_ret
     exact HS.pk
    have c37a := beq_eq_false_iff_ne.mpr c37
    have c37b := bne_iff_ne.mpr c37
    clear c37
    replace H := zgo H; obtain ⟨c38, H⟩ := H
    have c38n : (1 < a0.f1.size) = True := eq_true (by have := of_eq_true c38; omega)
    obtain rfl := zsome H
    go_wp2_with ((with_reducible refine gd 59 rfl ?_); refine ev_cl HS (impl_within.calls ht27.out) Tryz.func52 ?_; clear HS; intro wt27 HS F; have hx31 : ∀ h : 0 < a0.f1.size, ((a0.f1[0]'h).toNat : Int) = bt a0.f1 0 := bt_at a0.f1 0; have hz32 : 0 < a0.f1.size := (by have := of_eq_true c30; omega); have hx34 : ∀ h : 0 < a0.f1.size, ((a0.f1[0]'h).toNat : Int) = bt a0.f1 0 := bt_at a0.f1 0; have hz35 : 0 < a0.f1.size := (by have := of_eq_true c30; omega); have hx39 : ∀ h : 1 < a0.f1.size, ((a0.f1[1]'h).toNat : Int) = bt a0.f1 1 := bt_at a0.f1 1; have hz40 : 1 < a0.f1.size := (by have := of_eq_true c38; omega))
    go_ret
    exact HS.pk
theorem impl_itemOk.calls {k : Nat} {a0 : S66} {a1 : Int} {Ap0 : Option Addr} {np0 cp0 : Nat} {r : Bool} {w : World} (h : impl_itemOk.f k a0 a1 = some r) (gp0 : k66.C w Ap0 np0 a0.f2) (lp0 : np0 ≤ cp0) :
    Calls Tryz.prog 101 #[.agg #[.int .i64 a0.f0, .string a0.f1, .slice Ap0 np0 cp0], .int .i64 a1] w (fun e w' => e = .returned (.bool r) ∧ Hp noFP w w' []) := impl_itemOk.calls_ k (Nat.le_refl k) h gp0 lp0
def impl_ItemOk.f (k : Nat) (a0 : S66) : Option (Bool) := ((impl_itemOk.f k a0 0).bind fun t3 => (some t3))
theorem impl_ItemOk.calls {k : Nat} {a0 : S66} {Ap0 : Option Addr} {np0 cp0 : Nat} {r : Bool} {w : World} (h : impl_ItemOk.f k a0 = some r) (gp0 : k66.C w Ap0 np0 a0.f2) (lp0 : np0 ≤ cp0) :
    Calls Tryz.prog 70 #[.agg #[.int .i64 a0.f0, .string a0.f1, .slice Ap0 np0 cp0]] w (fun e w' => e = .returned (.bool r) ∧ Hp noFP w w' []) := by
 obtain rfl := C_len gp0
 have HS := Hp.start w
 have H := Aside0.mk h
 clear h
 unfold impl_ItemOk.f at H
 go_enter Tryz.func70, Tryz.ntmps70
 replace H := zbind H; obtain ⟨t3, ht3, H⟩ := H
 obtain rfl := zsome H
 go_wp2_with (first | ((with_reducible refine gd 1 rfl ?_); refine ev_bx HS ?_; clear HS; intro g1 w1 HS F) | ((with_reducible refine gd 4 rfl ?_); refine ev_cl HS (impl_itemOk.calls ht3.out (HS.ro gp0) lp0) Tryz.func101 ?_; clear HS; intro wt3 HS F))
 go_ret
 exact HS.pk
def impl_lengthText.l0 : Nat → (List Int) → Int → Option (ByteArray)
  | 0, _, _ => none
  | k + 1, l14, x16 => (if 0 < x16 then (if 1 + l14.length ≤ 140737488355328 then (lets (([(x16 % 256)] : List Int) ++ l14) fun y22 => (impl_lengthText.l0 k y22 (x16 / 256))) else none) else (if 1 + l14.length ≤ 140737488355328 then (lets (([((wrap64 (128 + (l14.length : Int))) % 256)] : List Int) ++ l14) fun y27 => (some (strOfNums y27))) else none))
def impl_lengthText.f (k : Nat) (a0 : Int) : Option (ByteArray) := (if a0 < 128 then (some (strOfNums ([(a0 % 256)] : List Int))) else (impl_lengthText.l0 k [] a0))
theorem impl_lengthText.calls {k : Nat} {a0 : Int} {r : ByteArray} {w : World} (h : impl_lengthText.f k a0 = some r) :
    Calls Tryz.prog 102 #[.int .i64 a0] w (fun e w' => e = .returned (.string r) ∧ Hp noFP w w' []) := by
 have HS := Hp.start w
 have H := Aside0.mk h
 clear h
 unfold impl_lengthText.f at H
 go_enter Tryz.func102, Tryz.ntmps102
 replace H := zif H; rcases H with ⟨c1, H⟩ | ⟨c1, H⟩
 case inl =>
  obtain rfl := zsome H
  go_wp2_with (first | ((with_reducible refine gd 9 rfl ?_); refine ev_li (Zd.int .u8) [] ([(a0 % 256)] : List Int) ([.int .u8 (a0 % 256)] ++ []) HS (MadeL.cons (js1 := []) (c := [.int .u8 (a0 % 256)]) rfl (made_flat (fun _ => rfl)) MadeL.nil (by decide)) ?_; clear HS; intro v2 w2 HS F; obtain ⟨B2, d2, rfl, m2⟩ := HS.formn 1 0 rfl rfl) | ((with_reducible refine gd 10 rfl ?_); refine ev_val rfl (run_str rfl rfl Tryz.underlying22 Tryz.underlying5 Tryz.underlying9 (HS.rd 0 rfl)) ?_))
  go_ret
  exact HS.pk
 go_wp2
 replace HS := HS.nil 5 (Zd.int .u8)
 go_loopg [3, 4] k (fun kq v_3 v_4 w' => ∃ (l14 : List Int) (v15 : Value) (x16 : Int), v_3 = v15 ∧ v_4 = .int .i64 x16 ∧ Aside0 (impl_lengthText.l0 kq l14 x16 = some r) ∧ Aside0 (kq ≤ k) ∧ Hp noFP w w' [.own (Zd.slice 5 (Zd.int .u8)) l14 [v15]])
 case atStart => exact ⟨_, _, _, rfl, rfl, H, ⟨Nat.le_refl _⟩, HS⟩
 case round =>
  clear HS H; (try clear F)
  obtain ⟨l14, v15, x16, rfl, rfl, H, HKk13, HS⟩ := hrel
  obtain ⟨B15, d15, rfl, m15⟩ := HS.form 0 rfl
  cases gk with
  | zero => exact absurd H.out (by simp [impl_lengthText.l0])
  | succ k13 =>
   simp only [impl_lengthText.l0] at H
   replace H := zif H; rcases H with ⟨c18, H⟩ | ⟨c18, H⟩
   case inl =>
    replace H := zgo H; obtain ⟨c21, H⟩ := H
    replace H := zlets H; obtain ⟨y22, e_y22, H⟩ := H
    go_wp2_with (first | ((with_reducible refine gd 18 rfl ?_); refine ev_li (Zd.int .u8) [] ([(x16 % 256)] : List Int) ([.int .u8 (x16 % 256)] ++ []) HS (MadeL.cons (js1 := []) (c := [.int .u8 (x16 % 256)]) rfl (made_flat (fun _ => rfl)) MadeL.nil (by decide)) ?_; clear HS; intro v19 w19 HS F; obtain ⟨B19, d19, rfl, m19⟩ := HS.formn 1 1 rfl rfl) | ((with_reducible refine gd 20 rfl ?_); refine ev_apr (flat_int _) 1 HS rfl (HS.rd 0 rfl) Tryz.underlying22 info5 (of_eq_true c21) ?_; clear HS; intro v22 w22 HS; rw [← e_y22.out] at HS; obtain ⟨B22, d22, rfl, m22⟩ := HS.form 2 rfl; (try simp only [hpn, hpm] at HS)))
    go_roundg k13
    case measure => have := HKk13.out; omega
    case rel => exact ⟨_, _, _, rfl, rfl, H, ⟨by have := HKk13.out; omega⟩, HS.pick [2] (by decide) (by rfl)⟩
   replace H := zgo H; obtain ⟨c26, H⟩ := H
   replace H := zlets H; obtain ⟨y27, e_y27, H⟩ := H
   obtain rfl := zsome H
   go_wp2_with (first | ((with_reducible refine gd 25 rfl ?_); refine ev_li (Zd.int .u8) [] ([((wrap64 (128 + (l14.length : Int))) % 256)] : List Int) ([.int .u8 ((wrap64 (128 + (l14.length : Int))) % 256)] ++ []) HS (MadeL.cons (js1 := []) (c := [.int .u8 ((wrap64 (128 + (l14.length : Int))) % 256)]) rfl (made_flat (fun _ => rfl)) MadeL.nil (by decide)) ?_; clear HS; intro v24 w24 HS F; obtain ⟨B24, d24, rfl, m24⟩ := HS.formn 1 1 rfl rfl) | ((with_reducible refine gd 27 rfl ?_); refine ev_apr (flat_int _) 1 HS rfl (HS.rd 0 rfl) Tryz.underlying22 info5 (of_eq_true c26) ?_; clear HS; intro v27 w27 HS; rw [← e_y27.out] at HS; obtain ⟨B27, d27, rfl, m27⟩ := HS.form 2 rfl; (try simp only [hpn, hpm] at HS)) | ((with_reducible refine gd 28 rfl ?_); refine ev_val rfl (run_str rfl rfl Tryz.underlying22 Tryz.underlying5 Tryz.underlying9 (HS.rd 2 rfl)) ?_))
   go_ret
   exact HS.pk
mutual
def impl_itemText.l0 : Nat → (List Int) → Int → S66 → Option (ByteArray)
  | 0, _, _, _ => none
  | k + 1, l19, x21, a0 => (if x21 < (a0.f2.length : Int) then (if 0 ≤ x21 then (if x21 < (a0.f2.length : Int) then ((impl_itemText.f k (rd_T66 a0.f2 x21)).bind fun t31 => (if l19.length + t31.size ≤ 140737488355328 then (lets (l19 ++ bytesOf t31) fun y34 => (impl_itemText.l0 k y34 (wrap64 (x21 + 1)) a0)) else none)) else none) else none) else ((impl_lengthText.f k ((strOfNums l19).size : Int)).bind fun t11 => (if (strOfNums ([(a0.f0 % 256)] : List Int)).size + t11.size ≤ 9223372036854775807 then (if ((strOfNums ([(a0.f0 % 256)] : List Int)) ++ t11).size + (strOfNums l19).size ≤ 9223372036854775807 then (some (((strOfNums ([(a0.f0 % 256)] : List Int)) ++ t11) ++ (strOfNums l19))) else none) else none)))
def impl_itemText.f : Nat → S66 → Option (ByteArray)
  | 0, _ => none
  | k + 1, a0 => (if a0.f0 = 48 then (impl_itemText.l0 k [] 0 a0) else ((impl_lengthText.f k (a0.f1.size : Int)).bind fun t17 => (if (strOfNums ([(a0.f0 % 256)] : List Int)).size + t17.size ≤ 9223372036854775807 then (if ((strOfNums ([(a0.f0 % 256)] : List Int)) ++ t17).size + a0.f1.size ≤ 9223372036854775807 then (some (((strOfNums ([(a0.f0 % 256)] : List Int)) ++ t17) ++ a0.f1)) else none) else none)))
end
def impl_itemText.T10 : TT := (true, [([], []), ([0], [0]), ([1], [1]), ([2], [2]), ([3], [3]), ([], []), ([5], [5]), ([6], [6]), ([4, 7], [4, 7]), ([], []), ([8, 9], [8, 9]), ([10, 7, 0, 1, 2, 3, 4, 5, 6, 7, 8, 9, 10], [10])])
theorem impl_itemText.tT10 : rtab .any (opsOf Tryz.f71 10) = impl_itemText.T10 := by kernel_rfl
theorem impl_itemText.calls_ (K : Nat) : ∀ {k : Nat} (hK : k ≤ K) {a0 : S66} {Ap0 : Option Addr} {np0 cp0 : Nat} {r : ByteArray} {w : World} (h : impl_itemText.f k a0 = some r) (gp0 : k66.C w Ap0 np0 a0.f2) (lp0 : np0 ≤ cp0),
    Calls Tryz.prog 71 #[.agg #[.int .i64 a0.f0, .string a0.f1, .slice Ap0 np0 cp0]] w (fun e w' => e = .returned (.string r) ∧ Hp noFP w w' []) := by
  induction K with
  | zero =>
    intro k hK a0 Ap0 np0 cp0 r w h gp0 lp0
    obtain rfl : k = 0 := by omega
    exact absurd h (by simp [impl_itemText.f])
  | succ K IH =>
    intro k hK a0 Ap0 np0 cp0 r w h gp0 lp0
    cases k with
    | zero => exact absurd h (by simp [impl_itemText.f])
    | succ k =>
    have HK0 : Aside0 (k ≤ K) := ⟨by omega⟩
    clear hK
    obtain rfl := C_len gp0
    have HS := Hp.start w
    have H := Aside0.mk h
    clear h
    simp only [impl_itemText.f] at H
    go_enter Tryz.func71, Tryz.ntmps71
    go_upto_if 11 with ((with_reducible refine gd 1 rfl ?_); refine ev_bx HS ?_; clear HS; intro g1 w1 HS F)
    replace H := znif' H; rcases H with ⟨c3, H⟩ | ⟨c3, H⟩
    case inl =>
     have c3a := beq_eq_false_iff_ne.mpr c3
     have c3b := bne_iff_ne.mpr c3
     clear c3
     (try simp only [c3a, c3b, dcn])
     (try go_wp2)
     replace H := zbind H; obtain ⟨t17, ht17, H⟩ := H
     replace H := zgo H; obtain ⟨c27, H⟩ := H
     replace H := zgo H; obtain ⟨c28, H⟩ := H
     refine dr_start [] HS #[false, false, false, false, false, false, false, false, false, false, false, false] (by kernel_rfl) rfl rfl impl_itemText.tT10 (fun w40 HT HS HH => ?_)
     (try clear F)
     refine join_ 0 #[true, true, true, true, true, true, true, true, true, true, true, true] (fun (v16 : Value) => ([(26, .pointer (some ⟨g1, 0, none⟩)), (27, .int .i64 a0.f0), (28, .int .u8 (a0.f0 % 256)), (29, v16), (30, .string (strOfNums ([(a0.f0 % 256)] : List Int))), (31, .string a0.f1), (32, .int .i64 (a0.f1.size : Int)), (33, .string t17), (34, .string ((strOfNums ([(a0.f0 % 256)] : List Int)) ++ t17)), (35, .string a0.f1), (36, .string (((strOfNums ([(a0.f0 % 256)] : List Int)) ++ t17) ++ a0.f1)), (2, .string (((strOfNums ([(a0.f0 % 256)] : List Int)) ++ t17) ++ a0.f1))] : List (Tmp × Value))) (fun (v16 : Value) w' => Hp noFP w w' [.box g1 [.int .i64 a0.f0, .string a0.f1, .slice Ap0 a0.f2.length cp0] 66, .own (Zd.slice 5 (Zd.int .u8)) ([(a0.f0 % 256)] : List Int) [v16]]) ?_ ?_
     rotate_left
     · intro hJ
       refine drq_of [(0, some 26), (1, some 27), (2, some 28), (5, some 31), (6, some 32), (9, some 35)] ?_
       repeat (first | refine drp HT ?_ | refine drt HT HH ?_)
       refine drq_end ?_
       refine dr_any [3, 7] HT (by kernel_rfl) (by decide) (AllReadyL.cons rfl (by decide) (fun K hK => ?_) (AllReadyL.cons rfl (by decide) (fun K hK => ?_) AllReadyL.nil))
       · refine if_li (Zd.int .u8) [] ([(a0.f0 % 256)] : List Int) ([.int .u8 (a0.f0 % 256)] ++ []) HS (MadeL.cons (js1 := []) (c := [.int .u8 (a0.f0 % 256)]) rfl (made_flat (fun _ => rfl)) MadeL.nil (by decide)) ?_; clear HS; intro v16 w16 HS F; obtain ⟨B16, d16, rfl, m16⟩ := HS.formn 1 1 rfl rfl
         refine nrm 29 hK ⟨_, HS⟩ (fun HH => ?_); clear hK K
         refine dr_any [4, 7] HT (by kernel_rfl) (by decide) (AllReadyL.cons rfl (by decide) (fun K hK => ?_) (AllReadyL.cons rfl (by decide) (fun K hK => ?_) AllReadyL.nil))
         · refine if_wp (by rfl) ?_; refine wp_run (run_str rfl rfl Tryz.underlying22 Tryz.underlying5 Tryz.underlying9 (HS.rd 1 rfl)) ?_
           (try simp only [hpn, hpm] at HS)
           have F := HS.boxes; simp only [bxn] at F
           refine nrm 30 hK ⟨_, HS⟩ (fun HH => ?_); clear hK K
           refine dr1 7 HT fun K hK => ?_
           refine go_cl HS (impl_lengthText.calls ht17.out) Tryz.func102 ?_; clear HS; intro wt17 HS F
           refine nrm 33 hK ⟨_, HS⟩ (fun HH => ?_); clear hK K
           refine dr_pure 8 (some 34) HT (v := .string ((strOfNums ([(a0.f0 % 256)] : List Int)) ++ t17)) (a' := ?_) rfl rfl (by kernel_rfl) (fun _ _ _ h => h) (.inl ⟨by rfl, fun w' => (run_cat rfl rfl rfl (of_eq_true c27))⟩) ?_ ?_
           rotate_left
           · simp only [Act.put, ptn]; rfl
           refine dr_pure 10 (some 36) HT (v := .string (((strOfNums ([(a0.f0 % 256)] : List Int)) ++ t17) ++ a0.f1)) (a' := ?_) rfl rfl (by kernel_rfl) (fun _ _ _ h => h) (.inl ⟨by rfl, fun w' => (run_cat rfl rfl rfl (of_eq_true c28))⟩) ?_ ?_
           rotate_left
           · simp only [Act.put, ptn]; rfl
           refine drq_of [(11, some 2)] ?_
           repeat (refine drp HT ?_)
           refine drq_end ?_
           refine norm_ ?_ (hJ (.slice B16 1 d16) _ (HS.arr [some 0, some 1] (by decide)))
           simp only [putAll, Act.put, ptn]
           (try rfl)
         · refine go_cl HS (impl_lengthText.calls ht17.out) Tryz.func102 ?_; clear HS; intro wt17 HS F
           refine nrm 33 hK ⟨_, HS⟩ (fun HH => ?_); clear hK K
           refine dr1 4 HT fun K hK => ?_
           refine if_wp (by rfl) ?_; refine wp_run (run_str rfl rfl Tryz.underlying22 Tryz.underlying5 Tryz.underlying9 (HS.rd 1 rfl)) ?_
           (try simp only [hpn, hpm] at HS)
           have F := HS.boxes; simp only [bxn] at F
           refine nrm 30 hK ⟨_, HS⟩ (fun HH => ?_); clear hK K
           refine dr_pure 8 (some 34) HT (v := .string ((strOfNums ([(a0.f0 % 256)] : List Int)) ++ t17)) (a' := ?_) rfl rfl (by kernel_rfl) (fun _ _ _ h => h) (.inl ⟨by rfl, fun w' => (run_cat rfl rfl rfl (of_eq_true c27))⟩) ?_ ?_
           rotate_left
           · simp only [Act.put, ptn]; rfl
           refine dr_pure 10 (some 36) HT (v := .string (((strOfNums ([(a0.f0 % 256)] : List Int)) ++ t17) ++ a0.f1)) (a' := ?_) rfl rfl (by kernel_rfl) (fun _ _ _ h => h) (.inl ⟨by rfl, fun w' => (run_cat rfl rfl rfl (of_eq_true c28))⟩) ?_ ?_
           rotate_left
           · simp only [Act.put, ptn]; rfl
           refine drq_of [(11, some 2)] ?_
           repeat (refine drp HT ?_)
           refine drq_end ?_
           refine norm_ ?_ (hJ (.slice B16 1 d16) _ (HS.arr [some 0, some 1] (by decide)))
           simp only [putAll, Act.put, ptn]
           (try rfl)
       · refine go_cl HS (impl_lengthText.calls ht17.out) Tryz.func102 ?_; clear HS; intro wt17 HS F
         refine nrm 33 hK ⟨_, HS⟩ (fun HH => ?_); clear hK K
         refine dr1 3 HT fun K hK => ?_
         refine if_li (Zd.int .u8) [] ([(a0.f0 % 256)] : List Int) ([.int .u8 (a0.f0 % 256)] ++ []) HS (MadeL.cons (js1 := []) (c := [.int .u8 (a0.f0 % 256)]) rfl (made_flat (fun _ => rfl)) MadeL.nil (by decide)) ?_; clear HS; intro v16 w16 HS F; obtain ⟨B16, d16, rfl, m16⟩ := HS.formn 1 1 rfl rfl
         refine nrm 29 hK ⟨_, HS⟩ (fun HH => ?_); clear hK K
         refine dr1 4 HT fun K hK => ?_
         refine if_wp (by rfl) ?_; refine wp_run (run_str rfl rfl Tryz.underlying22 Tryz.underlying5 Tryz.underlying9 (HS.rd 1 rfl)) ?_
         (try simp only [hpn, hpm] at HS)
         have F := HS.boxes; simp only [bxn] at F
         refine nrm 30 hK ⟨_, HS⟩ (fun HH => ?_); clear hK K
         refine dr_pure 8 (some 34) HT (v := .string ((strOfNums ([(a0.f0 % 256)] : List Int)) ++ t17)) (a' := ?_) rfl rfl (by kernel_rfl) (fun _ _ _ h => h) (.inl ⟨by rfl, fun w' => (run_cat rfl rfl rfl (of_eq_true c27))⟩) ?_ ?_
         rotate_left
         · simp only [Act.put, ptn]; rfl
         refine dr_pure 10 (some 36) HT (v := .string (((strOfNums ([(a0.f0 % 256)] : List Int)) ++ t17) ++ a0.f1)) (a' := ?_) rfl rfl (by kernel_rfl) (fun _ _ _ h => h) (.inl ⟨by rfl, fun w' => (run_cat rfl rfl rfl (of_eq_true c28))⟩) ?_ ?_
         rotate_left
         · simp only [Act.put, ptn]; rfl
         refine drq_of [(11, some 2)] ?_
         repeat (refine drp HT ?_)
         refine drq_end ?_
         refine norm_ ?_ (hJ (.slice B16 1 d16) _ (HS.arr [some 0, some 1] (by decide)))
         simp only [putAll, Act.put, ptn]
         (try rfl)
     rintro v16 w30 HS
     obtain ⟨B16, d16, rfl, m16⟩ := HS.formn 1 1 rfl (by first | rfl | simp)
     have F := HS.boxes; simp only [bxn] at F
     refine norm_ (a' := ?_) ?_ ?_
     rotate_left
     · simp only [putAll, Act.put, ptn]; rfl
     refine done_ (done_of HT.out (by kernel_rfl)) ?_
     obtain rfl := zsome H
     go_wp2
     go_ret
     exact HS.pk
    have c3a := beq_iff_eq.mpr c3
    have c3b := bne_eq_false_iff_eq.mpr c3
    clear c3
    (try simp only [c3a, c3b, dcn])
    go_wp2
    replace HS := HS.nil 5 (Zd.int .u8)
    go_loopg [4, 15] k (fun kq v_4 v_15 w' => ∃ (l19 : List Int) (v20 : Value) (x21 : Int), v_4 = v20 ∧ v_15 = .int .i64 x21 ∧ Aside0 (impl_itemText.l0 kq l19 x21 a0 = some r) ∧ Aside0 (kq ≤ k) ∧ Hp noFP w w' [.box g1 [.int .i64 a0.f0, .string a0.f1, .slice Ap0 a0.f2.length cp0] 66, .own (Zd.slice 5 (Zd.int .u8)) l19 [v20]])
    case atStart => exact ⟨_, _, _, rfl, rfl, H, ⟨Nat.le_refl _⟩, HS⟩
    case round =>
     clear HS H; (try clear F)
     obtain ⟨l19, v20, x21, rfl, rfl, H, HKk18, HS⟩ := hrel
     obtain ⟨B20, d20, rfl, m20⟩ := HS.form 1 rfl
     have F := HS.boxes; simp only [bxn] at F
     cases gk with
     | zero => exact absurd H.out (by simp [impl_itemText.l0])
     | succ k18 =>
      simp only [impl_itemText.l0] at H
      replace H := zif H; rcases H with ⟨c23, H⟩ | ⟨c23, H⟩
      case inl =>
       replace H := zgo H; obtain ⟨c24, H⟩ := H
       replace H := zgo H; obtain ⟨c25, H⟩ := H
       obtain ⟨ad26, B26_2, d26_2, rfl, e26_0, e26_1, e26_2, m26_2, y26_2⟩ := at_T66 gp0 x21 (of_eq_true c24) (of_eq_true c25)
       have e26_0_26 := HS.keepc e26_0
       have e26_1_26 := HS.keepc e26_1
       have e26_2_26 := HS.keepc e26_2
       replace H := zbind H; obtain ⟨t31, ht31, H⟩ := H
       replace H := zgo H; obtain ⟨c33, H⟩ := H
       replace H := zlets H; obtain ⟨y34, e_y34, H⟩ := H
       go_wp2_with (first | ((with_reducible refine gd 6 rfl ?_); refine ev_bx HS ?_; clear HS; intro g6 w6 HS F) | ((with_reducible refine gate_store (p := 6) rfl ?_); refine ev_st 2 0 HS (seg := [.int .i64 ((rd_T66 a0.f2 x21).f0), .string ((rd_T66 a0.f2 x21).f1), .slice B26_2 (rd_T66 a0.f2 x21).f2.length d26_2]) ?_; clear HS; intro w29 HS F) | ((with_reducible refine gd 21 rfl ?_); refine ev_cl HS (IH (by have := HK0.out; have := HKk18.out; omega) ht31.out (HS.ro y26_2) m26_2) Tryz.func71 ?_; clear HS; intro wt31 HS F) | ((with_reducible refine gd 22 rfl ?_); refine ev_appends rfl 1 HS rfl rfl rfl rfl Tryz.underlying22 Tryz.underlying9 info5 (by have := of_eq_true c33; first | omega | (simp only [List.length_cons, List.length_nil, List.length_append, Nat.zero_add] at this ⊢; omega)) ?_; clear HS; intro v34 w34 HS; rw [← e_y34.out] at HS; obtain ⟨B34, d34, rfl, m34⟩ := HS.form 3 rfl; (try simp only [hpn, hpm] at HS); have F := HS.boxes; simp only [bxn] at F))
       go_roundg k18
       case measure => have := HK0.out; have := HKk18.out; omega
       case rel => exact ⟨_, _, _, rfl, rfl, H, ⟨by have := HK0.out; have := HKk18.out; omega⟩, HS.pick [0, 3] (by decide) (by rfl)⟩
      go_wp2_with ((with_reducible refine gd 25 rfl ?_); refine ev_val rfl (run_str rfl rfl Tryz.underlying22 Tryz.underlying5 Tryz.underlying9 (HS.rd 1 rfl)) ?_)
      replace H := zbind H; obtain ⟨t11, ht11, H⟩ := H
      replace H := zgo H; obtain ⟨c12, H⟩ := H
      replace H := zgo H; obtain ⟨c13, H⟩ := H
      refine dr_start [] HS #[false, false, false, false, false, false, false, false, false, false, false, false] (by kernel_rfl) rfl rfl impl_itemText.tT10 (fun w37 HT HS HH => ?_)
      (try clear F)
      refine join_ 0 #[true, true, true, true, true, true, true, true, true, true, true, true] (fun (v7 : Value) => ([(26, .pointer (some ⟨g1, 0, none⟩)), (27, .int .i64 a0.f0), (28, .int .u8 (a0.f0 % 256)), (29, v7), (30, .string (strOfNums ([(a0.f0 % 256)] : List Int))), (31, .string (strOfNums l19)), (32, .int .i64 ((strOfNums l19).size : Int)), (33, .string t11), (34, .string ((strOfNums ([(a0.f0 % 256)] : List Int)) ++ t11)), (35, .string (strOfNums l19)), (36, .string (((strOfNums ([(a0.f0 % 256)] : List Int)) ++ t11) ++ (strOfNums l19))), (2, .string (((strOfNums ([(a0.f0 % 256)] : List Int)) ++ t11) ++ (strOfNums l19)))] : List (Tmp × Value))) (fun (v7 : Value) w' => Hp noFP w w' [.box g1 [.int .i64 a0.f0, .string a0.f1, .slice Ap0 a0.f2.length cp0] 66, .own (Zd.slice 5 (Zd.int .u8)) l19 [.slice B20 l19.length d20], .own (Zd.slice 5 (Zd.int .u8)) ([(a0.f0 % 256)] : List Int) [v7]]) ?_ ?_
      rotate_left
      · intro hJ
        refine drq_of [(0, some 26), (1, some 27), (2, some 28), (5, some 31), (6, some 32), (9, some 35)] ?_
        repeat (first | refine drp HT ?_ | refine drt HT HH ?_)
        refine drq_end ?_
        refine dr_any [3, 7] HT (by kernel_rfl) (by decide) (AllReadyL.cons rfl (by decide) (fun K hK => ?_) (AllReadyL.cons rfl (by decide) (fun K hK => ?_) AllReadyL.nil))
        · refine if_li (Zd.int .u8) [] ([(a0.f0 % 256)] : List Int) ([.int .u8 (a0.f0 % 256)] ++ []) HS (MadeL.cons (js1 := []) (c := [.int .u8 (a0.f0 % 256)]) rfl (made_flat (fun _ => rfl)) MadeL.nil (by decide)) ?_; clear HS; intro v7 w7 HS F; obtain ⟨B7, d7, rfl, m7⟩ := HS.formn 1 2 rfl rfl
          refine nrm 29 hK ⟨_, HS⟩ (fun HH => ?_); clear hK K
          refine dr_any [4, 7] HT (by kernel_rfl) (by decide) (AllReadyL.cons rfl (by decide) (fun K hK => ?_) (AllReadyL.cons rfl (by decide) (fun K hK => ?_) AllReadyL.nil))
          · refine if_wp (by rfl) ?_; refine wp_run (run_str rfl rfl Tryz.underlying22 Tryz.underlying5 Tryz.underlying9 (HS.rd 2 rfl)) ?_
            (try simp only [hpn, hpm] at HS)
            have F := HS.boxes; simp only [bxn] at F
            refine nrm 30 hK ⟨_, HS⟩ (fun HH => ?_); clear hK K
            refine dr1 7 HT fun K hK => ?_
            refine go_cl HS (impl_lengthText.calls ht11.out) Tryz.func102 ?_; clear HS; intro wt11 HS F
            refine nrm 33 hK ⟨_, HS⟩ (fun HH => ?_); clear hK K
            refine dr_pure 8 (some 34) HT (v := .string ((strOfNums ([(a0.f0 % 256)] : List Int)) ++ t11)) (a' := ?_) rfl rfl (by kernel_rfl) (fun _ _ _ h => h) (.inl ⟨by rfl, fun w' => (run_cat rfl rfl rfl (of_eq_true c12))⟩) ?_ ?_
            rotate_left
            · simp only [Act.put, ptn]; rfl
            refine dr_pure 10 (some 36) HT (v := .string (((strOfNums ([(a0.f0 % 256)] : List Int)) ++ t11) ++ (strOfNums l19))) (a' := ?_) rfl rfl (by kernel_rfl) (fun _ _ _ h => h) (.inl ⟨by rfl, fun w' => (run_cat rfl rfl rfl (of_eq_true c13))⟩) ?_ ?_
            rotate_left
            · simp only [Act.put, ptn]; rfl
            refine drq_of [(11, some 2)] ?_
            repeat (refine drp HT ?_)
            refine drq_end ?_
            refine norm_ ?_ (hJ (.slice B7 1 d7) _ (HS.arr [some 0, some 1, some 2] (by decide)))
            simp only [putAll, Act.put, ptn]
            (try rfl)
          · refine go_cl HS (impl_lengthText.calls ht11.out) Tryz.func102 ?_; clear HS; intro wt11 HS F
            refine nrm 33 hK ⟨_, HS⟩ (fun HH => ?_); clear hK K
            refine dr1 4 HT fun K hK => ?_
            refine if_wp (by rfl) ?_; refine wp_run (run_str rfl rfl Tryz.underlying22 Tryz.underlying5 Tryz.underlying9 (HS.rd 2 rfl)) ?_
            (try simp only [hpn, hpm] at HS)
            have F := HS.boxes; simp only [bxn] at F
            refine nrm 30 hK ⟨_, HS⟩ (fun HH => ?_); clear hK K
            refine dr_pure 8 (some 34) HT (v := .string ((strOfNums ([(a0.f0 % 256)] : List Int)) ++ t11)) (a' := ?_) rfl rfl (by kernel_rfl) (fun _ _ _ h => h) (.inl ⟨by rfl, fun w' => (run_cat rfl rfl rfl (of_eq_true c12))⟩) ?_ ?_
            rotate_left
            · simp only [Act.put, ptn]; rfl
            refine dr_pure 10 (some 36) HT (v := .string (((strOfNums ([(a0.f0 % 256)] : List Int)) ++ t11) ++ (strOfNums l19))) (a' := ?_) rfl rfl (by kernel_rfl) (fun _ _ _ h => h) (.inl ⟨by rfl, fun w' => (run_cat rfl rfl rfl (of_eq_true c13))⟩) ?_ ?_
            rotate_left
            · simp only [Act.put, ptn]; rfl
            refine drq_of [(11, some 2)] ?_
            repeat (refine drp HT ?_)
            refine drq_end ?_
            refine norm_ ?_ (hJ (.slice B7 1 d7) _ (HS.arr [some 0, some 1, some 2] (by decide)))
            simp only [putAll, Act.put, ptn]
            (try rfl)
        · refine go_cl HS (impl_lengthText.calls ht11.out) Tryz.func102 ?_; clear HS; intro wt11 HS F
          refine nrm 33 hK ⟨_, HS⟩ (fun HH => ?_); clear hK K
          refine dr1 3 HT fun K hK => ?_
          refine if_li (Zd.int .u8) [] ([(a0.f0 % 256)] : List Int) ([.int .u8 (a0.f0 % 256)] ++ []) HS (MadeL.cons (js1 := []) (c := [.int .u8 (a0.f0 % 256)]) rfl (made_flat (fun _ => rfl)) MadeL.nil (by decide)) ?_; clear HS; intro v7 w7 HS F; obtain ⟨B7, d7, rfl, m7⟩ := HS.formn 1 2 rfl rfl
          refine nrm 29 hK ⟨_, HS⟩ (fun HH => ?_); clear hK K
          refine dr1 4 HT fun K hK => ?_
          refine if_wp (by rfl) ?_; refine wp_run (run_str rfl rfl Tryz.underlying22 Tryz.underlying5 Tryz.underlying9 (HS.rd 2 rfl)) ?_
          (try simp only [hpn, hpm] at HS)
          have F := HS.boxes; simp only [bxn] at F
          refine nrm 30 hK ⟨_, HS⟩ (fun HH => ?_); clear hK K
          refine dr_pure 8 (some 34) HT (v := .string ((strOfNums ([(a0.f0 % 256)] : List Int)) ++ t11)) (a' := ?_) rfl rfl (by kernel_rfl) (fun _ _ _ h => h) (.inl ⟨by rfl, fun w' => (run_cat rfl rfl rfl (of_eq_true c12))⟩) ?_ ?_
          rotate_left
          · simp only [Act.put, ptn]; rfl
          refine dr_pure 10 (some 36) HT (v := .string (((strOfNums ([(a0.f0 % 256)] : List Int)) ++ t11) ++ (strOfNums l19))) (a' := ?_) rfl rfl (by kernel_rfl) (fun _ _ _ h => h) (.inl ⟨by rfl, fun w' => (run_cat rfl rfl rfl (of_eq_true c13))⟩) ?_ ?_
          rotate_left
          · simp only [Act.put, ptn]; rfl
          refine drq_of [(11, some 2)] ?_
          repeat (refine drp HT ?_)
          refine drq_end ?_
          refine norm_ ?_ (hJ (.slice B7 1 d7) _ (HS.arr [some 0, some 1, some 2] (by decide)))
          simp only [putAll, Act.put, ptn]
          (try rfl)
      rintro v7 w14 HS
      obtain ⟨B7, d7, rfl, m7⟩ := HS.formn 1 2 rfl (by first | rfl | simp)
      have F := HS.boxes; simp only [bxn] at F
      refine norm_ (a' := ?_) ?_ ?_
      rotate_left
      · simp only [putAll, Act.put, ptn]; rfl
      refine done_ (done_of HT.out (by kernel_rfl)) ?_
      obtain rfl := zsome H
      go_wp2
      go_ret
      exact HS.pk
theorem impl_itemText.calls {k : Nat} {a0 : S66} {Ap0 : Option Addr} {np0 cp0 : Nat} {r : ByteArray} {w : World} (h : impl_itemText.f k a0 = some r) (gp0 : k66.C w Ap0 np0 a0.f2) (lp0 : np0 ≤ cp0) :
    Calls Tryz.prog 71 #[.agg #[.int .i64 a0.f0, .string a0.f1, .slice Ap0 np0 cp0]] w (fun e w' => e = .returned (.string r) ∧ Hp noFP w w' []) := impl_itemText.calls_ k (Nat.le_refl k) h gp0 lp0
def impl_ItemText.f (k : Nat) (a0 : S66) : Option (ByteArray × Bool) := ((impl_ItemOk.f k a0).bind fun t3 => (if t3 = true then ((impl_itemText.f k a0).bind fun t6 => (if 4000 < (t6.size : Int) then (some ((⟨#[]⟩ : ByteArray), false)) else (some (t6, true)))) else (some ((⟨#[]⟩ : ByteArray), false))))
theorem impl_ItemText.calls {k : Nat} {a0 : S66} {Ap0 : Option Addr} {np0 cp0 : Nat} {r1 : ByteArray} {r2 : Bool} {w : World} (h : impl_ItemText.f k a0 = some (r1, r2)) (gp0 : k66.C w Ap0 np0 a0.f2) (lp0 : np0 ≤ cp0) :
    Calls Tryz.prog 30 #[.agg #[.int .i64 a0.f0, .string a0.f1, .slice Ap0 np0 cp0]] w (fun e w' => e = .returned (.tuple #[.string r1, .bool r2]) ∧ Hp noFP w w' []) := by
 obtain rfl := C_len gp0
 have HS := Hp.start w
 have H := Aside0.mk h
 clear h
 unfold impl_ItemText.f at H
 go_enter Tryz.func30, Tryz.ntmps30
 replace H := zbind H; obtain ⟨t3, ht3, H⟩ := H
 go_upto_if 7 with (first | ((with_reducible refine gd 1 rfl ?_); refine ev_bx HS ?_; clear HS; intro g1 w1 HS F) | ((with_reducible refine gd 6 rfl ?_); refine ev_cl HS (impl_ItemOk.calls ht3.out (HS.ro gp0) lp0) Tryz.func70 ?_; clear HS; intro wt3 HS F))
 replace H := znifb H; rcases H with ⟨c5, H⟩ | ⟨c5, H⟩
 case inl =>
  subst c5
  (try simp only [dcn, dcu, dcf])
  obtain ⟨rfl, rfl⟩ := zsome2 H
  go_wp2
  exact bodyPost_ret (results_list (rs := [.tmp 2, .tmp 3]) rfl (by simp) (.tmp (.tmp .nil))) rfl ⟨rfl, HS.pick [] (by decide) (by rfl)⟩
 subst c5
 (try simp only [dcn, dcu, dcf])
 replace H := zbind H; obtain ⟨t6, ht6, H⟩ := H
 go_upto_if 12 with ((with_reducible refine gd 9 rfl ?_); refine ev_cl HS (impl_itemText.calls ht6.out (HS.ro gp0) lp0) Tryz.func71 ?_; clear HS; intro wt6 HS F)
 replace H := zif H; rcases H with ⟨c8, H⟩ | ⟨c8, H⟩
 case inl =>
  (try simp only [c8, dcn])
  obtain ⟨rfl, rfl⟩ := zsome2 H
  go_wp2
  exact bodyPost_ret (results_list (rs := [.tmp 2, .tmp 3]) rfl (by simp) (.tmp (.tmp .nil))) rfl ⟨rfl, HS.pick [] (by decide) (by rfl)⟩
 (try simp only [c8, dcn])
 obtain ⟨rfl, rfl⟩ := zsome2 H
 go_wp2
 exact bodyPost_ret (results_list (rs := [.tmp 2, .tmp 3]) rfl (by simp) (.tmp (.tmp .nil))) rfl ⟨rfl, HS.pick [] (by decide) (by rfl)⟩
mutual
def impl_copyItem.l0 : Nat → (List S66) → Int → S66 → Option (S66)
  | 0, _, _, _ => none
  | k + 1, l28, x30, a0 => (if x30 < (a0.f2.length : Int) then (if 0 ≤ x30 then (if x30 < (a0.f2.length : Int) then ((impl_copyItem.f k (rd_T66 a0.f2 x30)).bind fun t4 => (if l28.length + 1 ≤ 2932031007402 then (lets (l28 ++ ([t4] : List S66)) fun y10 => (impl_copyItem.l0 k y10 (wrap64 (x30 + 1)) a0)) else none)) else none) else none) else (some (⟨a0.f0, a0.f1, l28⟩ : S66)))
def impl_copyItem.f : Nat → S66 → Option (S66)
  | 0, _ => none
  | k + 1, a0 => (impl_copyItem.l0 k [] 0 a0)
end
def impl_copyItem.T5 : TT := (true, [([], []), ([0], [0]), ([], []), ([2], [2]), ([3], [3]), ([1, 4, 3], [1, 4]), ([0, 1, 2, 3, 4, 5], []), ([6, 5, 5, 0, 1, 2, 3, 4, 5], [5, 6])])
theorem impl_copyItem.tT5 : rtab .any (opsOf Tryz.f72 5) = impl_copyItem.T5 := by kernel_rfl
theorem impl_copyItem.calls_ (K : Nat) : ∀ {k : Nat} (hK : k ≤ K) {a0 : S66} {Ap0 : Option Addr} {np0 cp0 : Nat} {r : S66} {w : World} (h : impl_copyItem.f k a0 = some r) (gp0 : k66.C w Ap0 np0 a0.f2) (lp0 : np0 ≤ cp0),
    Calls Tryz.prog 72 #[.agg #[.int .i64 a0.f0, .string a0.f1, .slice Ap0 np0 cp0]] w (fun e w' => ∃ v0_ : Value, e = .returned (.agg #[.int .i64 r.f0, .string r.f1, v0_]) ∧ Hp noFP w w' [.own (Zd.slice 66 q66) r.f2 [v0_]]) := by
  induction K with
  | zero =>
    intro k hK a0 Ap0 np0 cp0 r w h gp0 lp0
    obtain rfl : k = 0 := by omega
    exact absurd h (by simp [impl_copyItem.f])
  | succ K IH =>
    intro k hK a0 Ap0 np0 cp0 r w h gp0 lp0
    cases k with
    | zero => exact absurd h (by simp [impl_copyItem.f])
    | succ k =>
    have HK0 : Aside0 (k ≤ K) := ⟨by omega⟩
    clear hK
    obtain rfl := C_len gp0
    have HS := Hp.start w
    have H := Aside0.mk h
    clear h
    simp only [impl_copyItem.f] at H
    go_enter Tryz.func72, Tryz.ntmps72
    go_wp2_with (first | ((with_reducible refine gd 1 rfl ?_); refine ev_bx HS ?_; clear HS; intro g1 w1 HS F) | ((with_reducible refine gd 2 rfl ?_); refine ev_bx HS ?_; clear HS; intro g2 w2 HS F) | ((with_reducible refine gd 3 rfl ?_); refine ev_bx HS ?_; clear HS; intro g3 w3 HS F) | ((with_reducible refine gate_store (p := 3) rfl ?_); refine ev_st 2 0 HS (seg := [.int .i64 a0.f0, .string a0.f1, .slice none 0 0]) ?_; clear HS; intro w7 HS F))
    replace HS := HS.nil 66 q66
    go_loopg [14] k (fun kq v_14 w' => ∃ (l28 : List S66) (v29 : Value) (x30 : Int), v_14 = .int .i64 x30 ∧ Aside0 (impl_copyItem.l0 kq l28 x30 a0 = some r) ∧ Aside0 (kq ≤ k) ∧ Hp noFP w w' [.box g1 [.int .i64 a0.f0, .string a0.f1, .slice Ap0 a0.f2.length cp0] 66, .box g2 [.int .i64 0, .string (⟨#[]⟩ : ByteArray), .slice none 0 0] 66, .box g3 [.int .i64 a0.f0, .string a0.f1, v29] 66, .own (Zd.slice 66 q66) l28 [v29]])
    case atStart => exact ⟨_, _, _, rfl, H, ⟨Nat.le_refl _⟩, HS⟩
    case round =>
     clear HS H; (try clear F)
     obtain ⟨l28, v29, x30, rfl, H, HKk27, HS⟩ := hrel
     obtain ⟨B29, d29, rfl, m29⟩ := HS.form 3 rfl
     have F := HS.boxes; simp only [bxn] at F
     cases gk with
     | zero => exact absurd H.out (by simp [impl_copyItem.l0])
     | succ k27 =>
      simp only [impl_copyItem.l0] at H
      replace H := znif H; rcases H with ⟨c32, H⟩ | ⟨c32, H⟩
      case inl =>
       obtain rfl := zsome H
       go_wp2_with ((with_reducible refine gate_store (p := 2) rfl ?_); refine ev_st 1 0 HS (seg := [.int .i64 a0.f0, .string a0.f1, .slice B29 l28.length d29]) ?_; clear HS; intro w43 HS F)
       exact bodyPost_ret (results_single rfl (.cell _ _ _ _ _ rfl (HS.boxAt (i := 1) rfl) Tryz.underlying66 rfl (by kernel_rfl) .nil)) rfl ⟨_, rfl, HS.pick [3] (by decide) (by rfl)⟩
      replace H := zgo H; obtain ⟨c33, H⟩ := H
      replace H := zgo H; obtain ⟨c34, H⟩ := H
      obtain ⟨ad35, B35_2, d35_2, rfl, e35_0, e35_1, e35_2, m35_2, y35_2⟩ := at_T66 gp0 x30 (of_eq_true c33) (of_eq_true c34)
      have e35_0_35 := HS.keepc e35_0
      have e35_1_35 := HS.keepc e35_1
      have e35_2_35 := HS.keepc e35_2
      go_wp2_with (first | ((with_reducible refine gd 5 rfl ?_); refine ev_bx HS ?_; clear HS; intro g5 w5 HS F) | ((with_reducible refine gate_store (p := 5) rfl ?_); refine ev_st 4 0 HS (seg := [.int .i64 ((rd_T66 a0.f2 x30).f0), .string ((rd_T66 a0.f2 x30).f1), .slice B35_2 (rd_T66 a0.f2 x30).f2.length d35_2]) ?_; clear HS; intro w38 HS F))
      replace H := zbind H; obtain ⟨t4, ht4, H⟩ := H
      replace H := zgo H; obtain ⟨c9, H⟩ := H
      replace H := zlets H; obtain ⟨y10, e_y10, H⟩ := H
      refine dr_start2 [.box g1 [.int .i64 a0.f0, .string a0.f1, .slice (some ad35) a0.f2.length cp0] 66, .box g2 [.int .i64 0, .string (⟨#[]⟩ : ByteArray), .slice none 0 0] 66, .box g3 [.int .i64 a0.f0, .string a0.f1, .slice B29 l28.length d29] 66, .emp, .box g5 [.int .i64 ((rd_T66 a0.f2 x30).f0), .string ((rd_T66 a0.f2 x30).f1), .slice B35_2 (rd_T66 a0.f2 x30).f2.length d35_2] 66] [7] HS (HS.arr [some 0, some 1, some 2, none, some 4] (by decide)) #[false, false, false, false, false, false, false, false] (by kernel_rfl) rfl rfl impl_copyItem.tT5 (fun w41 HT HS HH => ?_)
      (try clear F)
      refine drq_of [(0, some 18), (1, some 19), (2, some 20)] ?_
      repeat (first | refine drp HT ?_ | refine drt HT HH ?_)
      refine drq_end ?_
      refine dr1 3 HT fun K hK => ?_
      refine go_cl1 HS (IH (by have := HK0.out; have := HKk27.out; omega) ht4.out (HS.ro y35_2) m35_2) Tryz.func72 ?_; clear HS; intro v6 wt4 HS F; obtain ⟨B6, d6, rfl, m6⟩ := HS.form 5 rfl
      refine hK.out _ _ ⟨[], HS.arr [some 0, some 1, some 2, none, some 4] (by decide)⟩ (fun HH => ?_)
      clear hK K
      refine norm_ (a' := ?_) ?_ ?_
      rotate_left
      · show Act.put _ (some 21) _ = _; simp only [Act.put, ptn]; rfl
      refine dr1 4 HT fun K hK => ?_
      refine if_li q66 [5] ([t4] : List S66) ([.int .i64 t4.f0, .string t4.f1, .slice B6 t4.f2.length d6] ++ []) HS (MadeL.cons (js1 := [5]) (c := [.int .i64 t4.f0, .string t4.f1, .slice B6 t4.f2.length d6]) rfl (fun S hd hh => q66_pack (x := t4) hd (hh 5 (.own (Zd.slice 66 q66) t4.f2 [.slice B6 t4.f2.length d6]) rfl) (by decide)) MadeL.nil (by decide)) ?_; clear HS; intro v8 w8 HS F; obtain ⟨B8, d8, rfl, m8⟩ := HS.formn 1 6 rfl rfl
      refine hK.out _ _ ⟨[], HS.arr [some 0, some 1, some 2, none, some 4] (by decide)⟩ (fun HH => ?_)
      clear hK K
      refine norm_ (a' := ?_) ?_ ?_
      rotate_left
      · show Act.put _ (some 22) _ = _; simp only [Act.put, ptn]; rfl
      refine dr1 5 HT fun K hK => ?_
      refine wp_ap q66 3 6 HS rfl rfl Tryz.underlying64 info66 (of_eq_true c9) ?_; clear HS; intro v10 w10 HS; rw [← e_y10.out] at HS; obtain ⟨B10, d10, rfl, m10⟩ := HS.form 7 rfl
      (try simp only [hpn, hpm] at HS)
      have F := HS.boxes; simp only [bxn] at F
      refine hK.out _ _ ⟨[], HS.arr [some 0, some 1, some 2, none, some 4] (by decide)⟩ (fun HH => ?_)
      clear hK K
      refine norm_ (a' := ?_) ?_ ?_
      rotate_left
      · show Act.put _ (some 23) _ = _; simp only [Act.put, ptn]; rfl
      refine drq_of [(6, some 24)] ?_
      repeat (refine drp HT ?_)
      refine drq_end ?_
      refine dr_last 7 HT rfl (by kernel_rfl) (by decide) (fun K hK => ?_)
      refine if_st 2 2 HS (seg := [.slice B10 y10.length d10]) ?_; clear HS; intro w11 HS F
      refine hK.out _ _ ?_
      clear hK K
      refine done_ (done_of HT.out (by kernel_rfl)) ?_
      (try clear F)
      have F := HS.boxes; simp only [bxn] at F
      go_wp2
      go_roundg k27
      case measure => have := HK0.out; have := HKk27.out; omega
      case rel => exact ⟨_, _, _, rfl, H, ⟨by have := HK0.out; have := HKk27.out; omega⟩, HS.pick [0, 1, 2, 7] (by decide) (by rfl)⟩
theorem impl_copyItem.calls {k : Nat} {a0 : S66} {Ap0 : Option Addr} {np0 cp0 : Nat} {r : S66} {w : World} (h : impl_copyItem.f k a0 = some r) (gp0 : k66.C w Ap0 np0 a0.f2) (lp0 : np0 ≤ cp0) :
    Calls Tryz.prog 72 #[.agg #[.int .i64 a0.f0, .string a0.f1, .slice Ap0 np0 cp0]] w (fun e w' => ∃ v0_ : Value, e = .returned (.agg #[.int .i64 r.f0, .string r.f1, v0_]) ∧ Hp noFP w w' [.own (Zd.slice 66 q66) r.f2 [v0_]]) := impl_copyItem.calls_ k (Nat.le_refl k) h gp0 lp0
def impl_ListItem.l0 : Nat → (List S66) → Int → (List S66) → Option (S66)
  | 0, _, _, _ => none
  | k + 1, l26, x28, a0 => (if x28 < (a0.length : Int) then (if 0 ≤ x28 then (if x28 < (a0.length : Int) then ((impl_copyItem.f k (rd_T66 a0 x28)).bind fun t4 => (if l26.length + 1 ≤ 2932031007402 then (lets (l26 ++ ([t4] : List S66)) fun y10 => (impl_ListItem.l0 k y10 (wrap64 (x28 + 1)) a0)) else none)) else none) else none) else (some (⟨48, (⟨#[]⟩ : ByteArray), l26⟩ : S66)))
def impl_ListItem.f (k : Nat) (a0 : (List S66)) : Option (S66) := (impl_ListItem.l0 k [] 0 a0)
def impl_ListItem.T5 : TT := (true, [([], []), ([0], [0]), ([], []), ([2], [2]), ([3], [3]), ([1, 4, 3], [1, 4]), ([0, 1, 2, 3, 4, 5], []), ([6, 5, 5, 0, 1, 2, 3, 4, 5], [5, 6])])
theorem impl_ListItem.tT5 : rtab .any (opsOf Tryz.f31 5) = impl_ListItem.T5 := by kernel_rfl
theorem impl_ListItem.calls {k : Nat} {a0 : (List S66)} {Ap0 : Option Addr} {np0 cp0 : Nat} {r : S66} {w : World} (h : impl_ListItem.f k a0 = some r) (gp0 : k66.C w Ap0 np0 a0) (lp0 : np0 ≤ cp0) :
    Calls Tryz.prog 31 #[.slice Ap0 np0 cp0] w (fun e w' => ∃ v0_ : Value, e = .returned (.agg #[.int .i64 r.f0, .string r.f1, v0_]) ∧ Hp noFP w w' [.own (Zd.slice 66 q66) r.f2 [v0_]]) := by
 obtain rfl := C_len gp0
 have HS := Hp.start w
 have H := Aside0.mk h
 clear h
 unfold impl_ListItem.f at H
 go_enter Tryz.func31, Tryz.ntmps31
 go_wp2_with (first | ((with_reducible refine gd 2 rfl ?_); refine ev_bx HS ?_; clear HS; intro g2 w2 HS F) | ((with_reducible refine gd 3 rfl ?_); refine ev_bx HS ?_; clear HS; intro g3 w3 HS F) | ((with_reducible refine gate_store (p := 3) rfl ?_); refine ev_st 1 0 HS (seg := [.int .i64 48, .string (⟨#[]⟩ : ByteArray), .slice none 0 0]) ?_; clear HS; intro w5 HS F))
 replace HS := HS.nil 66 q66
 go_loopg [9] k (fun kq v_9 w' => ∃ (l26 : List S66) (v27 : Value) (x28 : Int), v_9 = .int .i64 x28 ∧ Aside0 (impl_ListItem.l0 kq l26 x28 a0 = some r) ∧ Aside0 (kq ≤ k) ∧ Hp noFP w w' [.box g2 [.int .i64 0, .string (⟨#[]⟩ : ByteArray), .slice none 0 0] 66, .box g3 [.int .i64 48, .string (⟨#[]⟩ : ByteArray), v27] 66, .own (Zd.slice 66 q66) l26 [v27]])
 case atStart => exact ⟨_, _, _, rfl, H, ⟨Nat.le_refl _⟩, HS⟩
 case round =>
  clear HS H; (try clear F)
  obtain ⟨l26, v27, x28, rfl, H, HKk25, HS⟩ := hrel
  obtain ⟨B27, d27, rfl, m27⟩ := HS.form 2 rfl
  have F := HS.boxes; simp only [bxn] at F
  cases gk with
  | zero => exact absurd H.out (by simp [impl_ListItem.l0])
  | succ k25 =>
   simp only [impl_ListItem.l0] at H
   replace H := znif H; rcases H with ⟨c30, H⟩ | ⟨c30, H⟩
   case inl =>
    obtain rfl := zsome H
    go_wp2_with ((with_reducible refine gate_store (p := 2) rfl ?_); refine ev_st 0 0 HS (seg := [.int .i64 48, .string (⟨#[]⟩ : ByteArray), .slice B27 l26.length d27]) ?_; clear HS; intro w41 HS F)
    exact bodyPost_ret (results_single rfl (.cell _ _ _ _ _ rfl (HS.boxAt (i := 0) rfl) Tryz.underlying66 rfl (by kernel_rfl) .nil)) rfl ⟨_, rfl, HS.pick [2] (by decide) (by rfl)⟩
   replace H := zgo H; obtain ⟨c31, H⟩ := H
   replace H := zgo H; obtain ⟨c32, H⟩ := H
   obtain ⟨ad33, B33_2, d33_2, rfl, e33_0, e33_1, e33_2, m33_2, y33_2⟩ := at_T66 gp0 x28 (of_eq_true c31) (of_eq_true c32)
   have e33_0_33 := HS.keepc e33_0
   have e33_1_33 := HS.keepc e33_1
   have e33_2_33 := HS.keepc e33_2
   go_wp2_with (first | ((with_reducible refine gd 5 rfl ?_); refine ev_bx HS ?_; clear HS; intro g5 w5 HS F) | ((with_reducible refine gate_store (p := 5) rfl ?_); refine ev_st 3 0 HS (seg := [.int .i64 ((rd_T66 a0 x28).f0), .string ((rd_T66 a0 x28).f1), .slice B33_2 (rd_T66 a0 x28).f2.length d33_2]) ?_; clear HS; intro w36 HS F))
   replace H := zbind H; obtain ⟨t4, ht4, H⟩ := H
   replace H := zgo H; obtain ⟨c8, H⟩ := H
   replace H := zlets H; obtain ⟨y10, e_y10, H⟩ := H
   refine dr_start2 [.box g2 [.int .i64 0, .string (⟨#[]⟩ : ByteArray), .slice none 0 0] 66, .box g3 [.int .i64 48, .string (⟨#[]⟩ : ByteArray), .slice B27 l26.length d27] 66, .emp, .box g5 [.int .i64 ((rd_T66 a0 x28).f0), .string ((rd_T66 a0 x28).f1), .slice B33_2 (rd_T66 a0 x28).f2.length d33_2] 66] [7] HS (HS.arr [some 0, some 1, none, some 3] (by decide)) #[false, false, false, false, false, false, false, false] (by kernel_rfl) rfl rfl impl_ListItem.tT5 (fun w39 HT HS HH => ?_)
   (try clear F)
   refine drq_of [(0, some 13), (1, some 14), (2, some 15)] ?_
   repeat (first | refine drp HT ?_ | refine drt HT HH ?_)
   refine drq_end ?_
   refine dr1 3 HT fun K hK => ?_
   refine go_cl1 HS (impl_copyItem.calls ht4.out (HS.ro y33_2) m33_2) Tryz.func72 ?_; clear HS; intro v6 wt4 HS F; obtain ⟨B6, d6, rfl, m6⟩ := HS.form 4 rfl
   refine hK.out _ _ ⟨[], HS.arr [some 0, some 1, none, some 3] (by decide)⟩ (fun HH => ?_)
   clear hK K
   refine norm_ (a' := ?_) ?_ ?_
   rotate_left
   · show Act.put _ (some 16) _ = _; simp only [Act.put, ptn]; rfl
   refine dr1 4 HT fun K hK => ?_
   refine if_li q66 [4] ([t4] : List S66) ([.int .i64 t4.f0, .string t4.f1, .slice B6 t4.f2.length d6] ++ []) HS (MadeL.cons (js1 := [4]) (c := [.int .i64 t4.f0, .string t4.f1, .slice B6 t4.f2.length d6]) rfl (fun S hd hh => q66_pack (x := t4) hd (hh 4 (.own (Zd.slice 66 q66) t4.f2 [.slice B6 t4.f2.length d6]) rfl) (by decide)) MadeL.nil (by decide)) ?_; clear HS; intro v7 w7 HS F; obtain ⟨B7, d7, rfl, m7⟩ := HS.formn 1 5 rfl rfl
   refine hK.out _ _ ⟨[], HS.arr [some 0, some 1, none, some 3] (by decide)⟩ (fun HH => ?_)
   clear hK K
   refine norm_ (a' := ?_) ?_ ?_
   rotate_left
   · show Act.put _ (some 17) _ = _; simp only [Act.put, ptn]; rfl
   refine dr1 5 HT fun K hK => ?_
   refine wp_ap q66 2 5 HS rfl rfl Tryz.underlying64 info66 (of_eq_true c8) ?_; clear HS; intro v10 w10 HS; rw [← e_y10.out] at HS; obtain ⟨B10, d10, rfl, m10⟩ := HS.form 6 rfl
   (try simp only [hpn, hpm] at HS)
   have F := HS.boxes; simp only [bxn] at F
   refine hK.out _ _ ⟨[], HS.arr [some 0, some 1, none, some 3] (by decide)⟩ (fun HH => ?_)
   clear hK K
   refine norm_ (a' := ?_) ?_ ?_
   rotate_left
   · show Act.put _ (some 18) _ = _; simp only [Act.put, ptn]; rfl
   refine drq_of [(6, some 19)] ?_
   repeat (refine drp HT ?_)
   refine drq_end ?_
   refine dr_last 7 HT rfl (by kernel_rfl) (by decide) (fun K hK => ?_)
   refine if_st 1 2 HS (seg := [.slice B10 y10.length d10]) ?_; clear HS; intro w11 HS F
   refine hK.out _ _ ?_
   clear hK K
   refine done_ (done_of HT.out (by kernel_rfl)) ?_
   (try clear F)
   have F := HS.boxes; simp only [bxn] at F
   go_wp2
   go_roundg k25
   case measure => have := HKk25.out; omega
   case rel => exact ⟨_, _, _, rfl, H, ⟨by have := HKk25.out; omega⟩, HS.pick [0, 1, 6] (by decide) (by rfl)⟩
def impl_bytesItem.f (a0 : ByteArray) : Option (S66) := (some (⟨4, a0, ([] : List S66)⟩ : S66))
theorem impl_bytesItem.calls {a0 : ByteArray} {r : S66} {w : World} (h : impl_bytesItem.f a0 = some r) :
    Calls Tryz.prog 33 #[.string a0] w (fun e w' => ∃ v0_ : Value, e = .returned (.agg #[.int .i64 r.f0, .string r.f1, v0_]) ∧ Hp noFP w w' [.own (Zd.slice 66 q66) r.f2 [v0_]]) := by
 have HS := Hp.start w
 have H := Aside0.mk h
 clear h
 unfold impl_bytesItem.f at H
 go_enter Tryz.func33, Tryz.ntmps33
 obtain rfl := zsome H
 go_wp2_with (first | ((with_reducible refine gd 2 rfl ?_); refine ev_bx HS ?_; clear HS; intro g2 w2 HS F) | ((with_reducible refine gate_store (p := 2) rfl ?_); refine ev_st 0 0 HS (seg := [.int .i64 4, .string a0, .slice none 0 0]) ?_; clear HS; intro w3 HS F))
 replace HS := HS.nil 66 q66
 exact bodyPost_ret (results_single rfl (.cell _ _ _ _ _ rfl (HS.boxAt (i := 0) rfl) Tryz.underlying66 rfl (by kernel_rfl) .nil)) rfl ⟨_, rfl, HS.pick [1] (by decide) (by rfl)⟩
end Go.Proofs.YtfcpjeeeddjakaaGreat.F
