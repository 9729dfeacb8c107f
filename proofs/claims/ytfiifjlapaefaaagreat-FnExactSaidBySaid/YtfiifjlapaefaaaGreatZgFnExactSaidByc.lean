/- Functions of the program and of the law, and that their calls do what is written here. -/
import Derived.Test.YtfiifjlapaefaaaGreatZgFnExactSaidByb
namespace Go.Proofs.YtfiifjlapaefaaaGreat.F
open Go.RowKit Go.Proofs.YtfiifjlapaefaaaGreatW.PrintWords Go.Proofs.YtfiifjlapaefaaaGreatW.PrintLast Go.Proofs.YtfiifjlapaefaaaGreatW.PrintMore Go.Proofs.YtfiifjlapaefaaaGreat.Z
attribute [local go_sem] max2_int min2_int max_two min_two max_three min_three max_four min_four
set_option linter.unusedVariables false
set_option linter.unusedSimpArgs false
set_option maxRecDepth 100000
/-! ### spec_l07Text: function 77 -/
mutual
def spec_l07Text.l0 : Nat → ByteArray → Int → S110 → Option (ByteArray)
  | 0, _, _, _ => none
  | k + 1, x11, x12, a0 => (if x12 < (a0.f2.length : Int) then (if 0 ≤ x12 then (if x12 < (a0.f2.length : Int) then ((spec_l07Text.f k (rd_T110 a0.f2 x12)).bind fun t18 => (if x11.size + t18.size ≤ 9223372036854775807 then (spec_l07Text.l0 k (x11 ++ t18) (wrap64 (x12 + 1)) a0) else none)) else none) else none) else ((spec_l07Length.f k (x11.size : Int)).bind fun t13 => (if (strOfNums ([(a0.f0 % 256)] : List Int)).size + t13.size ≤ 9223372036854775807 then (if ((strOfNums ([(a0.f0 % 256)] : List Int)) ++ t13).size + x11.size ≤ 9223372036854775807 then (some (((strOfNums ([(a0.f0 % 256)] : List Int)) ++ t13) ++ x11)) else none) else none)))
def spec_l07Text.f : Nat → S110 → Option (ByteArray)
  | 0, _ => none
  | k + 1, a0 => (if a0.f0 = 48 then (spec_l07Text.l0 k a0.f1 0 a0) else ((spec_l07Length.f k (a0.f1.size : Int)).bind fun t26 => (if (strOfNums ([(a0.f0 % 256)] : List Int)).size + t26.size ≤ 9223372036854775807 then (if ((strOfNums ([(a0.f0 % 256)] : List Int)) ++ t26).size + a0.f1.size ≤ 9223372036854775807 then (some (((strOfNums ([(a0.f0 % 256)] : List Int)) ++ t26) ++ a0.f1)) else none) else none)))
end
def spec_l07Text.T7 : Bool × List (List Nat × List Nat) := (true, [([], []), ([0], [0]), ([1], [1]), ([2], [2]), ([3], [3]), ([], []), ([5], [5]), ([6], [6]), ([4, 7], [4, 7]), ([], []), ([8, 9], [8, 9]), ([10, 7, 0, 1, 2, 3, 4, 5, 6, 7, 8, 9, 10], [10])])
theorem spec_l07Text.tT7 : rtab .any (opsOf Tryz.f77 7) = spec_l07Text.T7 := by kernel_rfl
set_option maxHeartbeats 16000000 in
theorem spec_l07Text.calls_ (K : Nat) : ∀ {k : Nat} (hK : k ≤ K) {a0 : S110} {Ap0 : Option Addr} {np0 cp0 : Nat} {r : ByteArray} {w : World} (h : spec_l07Text.f k a0 = some r) (gp0 : k110.C w Ap0 np0 a0.f2) (lp0 : np0 ≤ cp0),
    Calls Tryz.prog 77 #[.agg #[.int .i64 a0.f0, .string a0.f1, .slice Ap0 np0 cp0]] w (fun e w' => e = .returned (.string r) ∧ Hp noFP w w' []) := by
  induction K with
  | zero =>
    intro k hK a0 Ap0 np0 cp0 r w h gp0 lp0
    obtain rfl : k = 0 := by omega
    exact absurd h (by simp [spec_l07Text.f])
  | succ K IH =>
    intro k hK a0 Ap0 np0 cp0 r w h gp0 lp0
    cases k with
    | zero => exact absurd h (by simp [spec_l07Text.f])
    | succ k =>
    have HK0 : Aside0 (k ≤ K) := ⟨by omega⟩
    clear hK
    obtain rfl := C_len gp0
    have HS := Hp.start w
    have H := Aside0.mk h
    clear h
    simp only [spec_l07Text.f] at H
    go_enter Tryz.func77, Tryz.ntmps77
    go_upto_if 9 with (first | ((with_reducible refine gd 1 rfl ?_); refine ev_bx HS ?_; clear HS; (try clear F); intro g1 w1 HS F))
    replace H := znif' H; rcases H with ⟨c3, H⟩ | ⟨c3, H⟩
    case inl =>
     have c3a := beq_eq_false_iff_ne.mpr c3
     have c3b := bne_iff_ne.mpr c3
     clear c3
     (try simp only [c3a, c3b, dcn])
     (try go_wp2)
     replace H := zbind H; obtain ⟨t26, ht26, H⟩ := H
     replace H := zgo H; obtain ⟨c27, H⟩ := H
     replace H := zgo H; obtain ⟨c28, H⟩ := H
     refine dr_start [] HS #[false, false, false, false, false, false, false, false, false, false, false, false] (by kernel_rfl) rfl rfl spec_l07Text.tT7 (fun w25 HT HS HH => ?_)
     (try clear F)
     refine join_ 0 #[true, true, true, true, true, true, true, true, true, true, true, true] (fun (v24 : Value) => ([(25, .pointer (some ⟨g1, 0, none⟩)), (26, .int .i64 a0.f0), (27, .int .u8 (a0.f0 % 256)), (28, v24), (29, .string (strOfNums ([(a0.f0 % 256)] : List Int))), (30, .string a0.f1), (31, .int .i64 (a0.f1.size : Int)), (32, .string t26), (33, .string ((strOfNums ([(a0.f0 % 256)] : List Int)) ++ t26)), (34, .string a0.f1), (35, .string (((strOfNums ([(a0.f0 % 256)] : List Int)) ++ t26) ++ a0.f1)), (2, .string (((strOfNums ([(a0.f0 % 256)] : List Int)) ++ t26) ++ a0.f1))] : List (Tmp × Value))) (fun (v24 : Value) w' => Hp noFP w w' [.box g1 [.int .i64 a0.f0, .string a0.f1, .slice Ap0 a0.f2.length cp0] 110, .own (Zd.slice 5 (Zd.int .u8)) ([(a0.f0 % 256)] : List Int) [v24]]) ?_ ?_
     rotate_left
     · intro hJ
       refine drq_of [(0, some 25), (1, some 26), (2, some 27), (5, some 30), (6, some 31), (9, some 34)] ?_
       repeat (first | refine drp HT ?_ | refine drt HT HH ?_)
       refine drq_end ?_
       refine dr_any [3, 7] HT (by kernel_rfl) (by decide) (AllReadyL.cons rfl (by decide) (fun K hK => ?_) (AllReadyL.cons rfl (by decide) (fun K hK => ?_) AllReadyL.nil))
       · refine if_li (Zd.int .u8) [] ([(a0.f0 % 256)] : List Int) ([.int .u8 (a0.f0 % 256)] ++ []) HS (MadeL.cons (js1 := []) (c := [.int .u8 (a0.f0 % 256)]) rfl (made_flat (fun _ => rfl)) MadeL.nil (by decide)) ?_; clear HS; (try clear F); intro v24 w24 HS F; obtain ⟨B24, d24, rfl, m24⟩ := HS.formn 1 1 rfl rfl
         refine nrm 28 hK ⟨_, HS⟩ (fun HH => ?_); clear hK K
         refine dr_any [4, 7] HT (by kernel_rfl) (by decide) (AllReadyL.cons rfl (by decide) (fun K hK => ?_) (AllReadyL.cons rfl (by decide) (fun K hK => ?_) AllReadyL.nil))
         · refine if_wp (by rfl) ?_; refine wp_run (run_str rfl rfl Tryz.underlying194 Tryz.underlying5 Tryz.underlying9 (HS.rd 1 rfl)) ?_
           (try simp only [hpn, hpm] at HS)
           have F := HS.boxes; simp only [bxn] at F
           refine nrm 29 hK ⟨_, HS⟩ (fun HH => ?_); clear hK K
           refine dr1 7 HT fun K hK => ?_
           refine go_cl HS (spec_l07Length.calls ht26.out) Tryz.func108 ?_; clear HS; (try clear F); intro wt26 HS F
           refine nrm 32 hK ⟨_, HS⟩ (fun HH => ?_); clear hK K
           refine dr_pure 8 (some 33) HT (v := .string ((strOfNums ([(a0.f0 % 256)] : List Int)) ++ t26)) (a' := ?_) rfl rfl (by kernel_rfl) (fun _ _ _ h => h) (.inl ⟨by rfl, fun w' => (run_cat rfl rfl rfl (of_eq_true c27))⟩) ?_ ?_
           rotate_left
           · simp only [Act.put, ptn]; rfl
           refine dr_pure 10 (some 35) HT (v := .string (((strOfNums ([(a0.f0 % 256)] : List Int)) ++ t26) ++ a0.f1)) (a' := ?_) rfl rfl (by kernel_rfl) (fun _ _ _ h => h) (.inl ⟨by rfl, fun w' => (run_cat rfl rfl rfl (of_eq_true c28))⟩) ?_ ?_
           rotate_left
           · simp only [Act.put, ptn]; rfl
           refine drq_of [(11, some 2)] ?_
           repeat (refine drp HT ?_)
           refine drq_end ?_
           refine norm_ ?_ (hJ (.slice B24 1 d24) _ (HS.arr [some 0, some 1] (by decide)))
           simp only [putAll, Act.put, ptn]
           (try rfl)
         · refine go_cl HS (spec_l07Length.calls ht26.out) Tryz.func108 ?_; clear HS; (try clear F); intro wt26 HS F
           refine nrm 32 hK ⟨_, HS⟩ (fun HH => ?_); clear hK K
           refine dr1 4 HT fun K hK => ?_
           refine if_wp (by rfl) ?_; refine wp_run (run_str rfl rfl Tryz.underlying194 Tryz.underlying5 Tryz.underlying9 (HS.rd 1 rfl)) ?_
           (try simp only [hpn, hpm] at HS)
           have F := HS.boxes; simp only [bxn] at F
           refine nrm 29 hK ⟨_, HS⟩ (fun HH => ?_); clear hK K
           refine dr_pure 8 (some 33) HT (v := .string ((strOfNums ([(a0.f0 % 256)] : List Int)) ++ t26)) (a' := ?_) rfl rfl (by kernel_rfl) (fun _ _ _ h => h) (.inl ⟨by rfl, fun w' => (run_cat rfl rfl rfl (of_eq_true c27))⟩) ?_ ?_
           rotate_left
           · simp only [Act.put, ptn]; rfl
           refine dr_pure 10 (some 35) HT (v := .string (((strOfNums ([(a0.f0 % 256)] : List Int)) ++ t26) ++ a0.f1)) (a' := ?_) rfl rfl (by kernel_rfl) (fun _ _ _ h => h) (.inl ⟨by rfl, fun w' => (run_cat rfl rfl rfl (of_eq_true c28))⟩) ?_ ?_
           rotate_left
           · simp only [Act.put, ptn]; rfl
           refine drq_of [(11, some 2)] ?_
           repeat (refine drp HT ?_)
           refine drq_end ?_
           refine norm_ ?_ (hJ (.slice B24 1 d24) _ (HS.arr [some 0, some 1] (by decide)))
           simp only [putAll, Act.put, ptn]
           (try rfl)
       · refine go_cl HS (spec_l07Length.calls ht26.out) Tryz.func108 ?_; clear HS; (try clear F); intro wt26 HS F
         refine nrm 32 hK ⟨_, HS⟩ (fun HH => ?_); clear hK K
         refine dr1 3 HT fun K hK => ?_
         refine if_li (Zd.int .u8) [] ([(a0.f0 % 256)] : List Int) ([.int .u8 (a0.f0 % 256)] ++ []) HS (MadeL.cons (js1 := []) (c := [.int .u8 (a0.f0 % 256)]) rfl (made_flat (fun _ => rfl)) MadeL.nil (by decide)) ?_; clear HS; (try clear F); intro v24 w24 HS F; obtain ⟨B24, d24, rfl, m24⟩ := HS.formn 1 1 rfl rfl
         refine nrm 28 hK ⟨_, HS⟩ (fun HH => ?_); clear hK K
         refine dr1 4 HT fun K hK => ?_
         refine if_wp (by rfl) ?_; refine wp_run (run_str rfl rfl Tryz.underlying194 Tryz.underlying5 Tryz.underlying9 (HS.rd 1 rfl)) ?_
         (try simp only [hpn, hpm] at HS)
         have F := HS.boxes; simp only [bxn] at F
         refine nrm 29 hK ⟨_, HS⟩ (fun HH => ?_); clear hK K
         refine dr_pure 8 (some 33) HT (v := .string ((strOfNums ([(a0.f0 % 256)] : List Int)) ++ t26)) (a' := ?_) rfl rfl (by kernel_rfl) (fun _ _ _ h => h) (.inl ⟨by rfl, fun w' => (run_cat rfl rfl rfl (of_eq_true c27))⟩) ?_ ?_
         rotate_left
         · simp only [Act.put, ptn]; rfl
         refine dr_pure 10 (some 35) HT (v := .string (((strOfNums ([(a0.f0 % 256)] : List Int)) ++ t26) ++ a0.f1)) (a' := ?_) rfl rfl (by kernel_rfl) (fun _ _ _ h => h) (.inl ⟨by rfl, fun w' => (run_cat rfl rfl rfl (of_eq_true c28))⟩) ?_ ?_
         rotate_left
         · simp only [Act.put, ptn]; rfl
         refine drq_of [(11, some 2)] ?_
         repeat (refine drp HT ?_)
         refine drq_end ?_
         refine norm_ ?_ (hJ (.slice B24 1 d24) _ (HS.arr [some 0, some 1] (by decide)))
         simp only [putAll, Act.put, ptn]
         (try rfl)
     rintro v24 w29 HS
     obtain ⟨B24, d24, rfl, m24⟩ := HS.formn 1 1 rfl (by first | rfl | simp)
     have F := HS.boxes; simp only [bxn] at F
     refine norm_ (a' := ?_) ?_ ?_
     rotate_left
     · simp only [putAll, Act.put, ptn]; rfl
     refine done_ (done_of HT.out (by kernel_rfl)) ?_
     obtain rfl := zsome H
     go_wp2
     go_ret
     exact HS.pk
    have c3a := beq_iff_eq.mpr c3
    have c3b := bne_eq_false_iff_eq.mpr c3
    clear c3
    (try simp only [c3a, c3b, dcn])
    go_wp2
    go_loopg [3, 4] k (fun kq v_3 v_4 w' => ∃ (x11 : ByteArray) (x12 : Int), v_3 = .string x11 ∧ v_4 = .int .i64 x12 ∧ Aside0 (spec_l07Text.l0 kq x11 x12 a0 = some r) ∧ Aside0 (kq ≤ k) ∧ Hp noFP w w' [.box g1 [.int .i64 a0.f0, .string a0.f1, .slice Ap0 a0.f2.length cp0] 110])
    case atStart => exact ⟨_, _, rfl, rfl, H, ⟨Nat.le_refl _⟩, HS⟩
    case round =>
     clear HS H; (try clear F)
     obtain ⟨x11, x12, rfl, rfl, H, HKk10, HS⟩ := hrel
     have F := HS.boxes; simp only [bxn] at F
     cases gk with
     | zero => exact absurd H.out (by simp [spec_l07Text.l0])
     | succ k10 =>
      simp only [spec_l07Text.l0] at H
      replace H := zif H; rcases H with ⟨c14, H⟩ | ⟨c14, H⟩
      case inl =>
       replace H := zgo H; obtain ⟨c15, H⟩ := H
       replace H := zgo H; obtain ⟨c16, H⟩ := H
       obtain ⟨ad17, B17_2, d17_2, rfl, e17_0, e17_1, e17_2, m17_2, y17_2⟩ := at_T110 gp0 x12 (of_eq_true c15) (of_eq_true c16)
       have e17_0_17 := (HS.keepc e17_0)
       have e17_1_17 := (HS.keepc e17_1)
       have e17_2_17 := (HS.keepc e17_2)
       replace H := zbind H; obtain ⟨t18, ht18, H⟩ := H
       replace H := zgo H; obtain ⟨c20, H⟩ := H
       go_wp2_with (first | ((with_reducible refine gd 23 rfl ?_); refine ev_cl HS (IH (by have := HK0.out; have := HKk10.out; omega) ht18.out (HS.ro y17_2) m17_2) Tryz.func77 ?_; clear HS; (try clear F); intro wt18 HS F) | ((with_reducible refine gd 24 rfl ?_); refine ev_val rfl (run_cat rfl rfl rfl (of_eq_true c20)) ?_))
       go_roundg k10
       case measure => have := HK0.out; have := HKk10.out; omega
       case rel => exact ⟨_, _, rfl, rfl, H, ⟨by have := HK0.out; have := HKk10.out; omega⟩, HS.pick [0] (by decide) (by rfl)⟩
      (try go_wp2)
      replace H := zbind H; obtain ⟨t13, ht13, H⟩ := H
      replace H := zgo H; obtain ⟨c19, H⟩ := H
      replace H := zgo H; obtain ⟨c21, H⟩ := H
      refine dr_start [] HS #[false, false, false, false, false, false, false, false, false, false, false, false] (by kernel_rfl) rfl rfl spec_l07Text.tT7 (fun w22 HT HS HH => ?_)
      (try clear F)
      refine join_ 0 #[true, true, true, true, true, true, true, true, true, true, true, true] (fun (v6 : Value) => ([(25, .pointer (some ⟨g1, 0, none⟩)), (26, .int .i64 a0.f0), (27, .int .u8 (a0.f0 % 256)), (28, v6), (29, .string (strOfNums ([(a0.f0 % 256)] : List Int))), (30, .string x11), (31, .int .i64 (x11.size : Int)), (32, .string t13), (33, .string ((strOfNums ([(a0.f0 % 256)] : List Int)) ++ t13)), (34, .string x11), (35, .string (((strOfNums ([(a0.f0 % 256)] : List Int)) ++ t13) ++ x11)), (2, .string (((strOfNums ([(a0.f0 % 256)] : List Int)) ++ t13) ++ x11))] : List (Tmp × Value))) (fun (v6 : Value) w' => Hp noFP w w' [.box g1 [.int .i64 a0.f0, .string a0.f1, .slice Ap0 a0.f2.length cp0] 110, .own (Zd.slice 5 (Zd.int .u8)) ([(a0.f0 % 256)] : List Int) [v6]]) ?_ ?_
      rotate_left
      · intro hJ
        refine drq_of [(0, some 25), (1, some 26), (2, some 27), (5, some 30), (6, some 31), (9, some 34)] ?_
        repeat (first | refine drp HT ?_ | refine drt HT HH ?_)
        refine drq_end ?_
        refine dr_any [3, 7] HT (by kernel_rfl) (by decide) (AllReadyL.cons rfl (by decide) (fun K hK => ?_) (AllReadyL.cons rfl (by decide) (fun K hK => ?_) AllReadyL.nil))
        · refine if_li (Zd.int .u8) [] ([(a0.f0 % 256)] : List Int) ([.int .u8 (a0.f0 % 256)] ++ []) HS (MadeL.cons (js1 := []) (c := [.int .u8 (a0.f0 % 256)]) rfl (made_flat (fun _ => rfl)) MadeL.nil (by decide)) ?_; clear HS; (try clear F); intro v6 w6 HS F; obtain ⟨B6, d6, rfl, m6⟩ := HS.formn 1 1 rfl rfl
          refine nrm 28 hK ⟨_, HS⟩ (fun HH => ?_); clear hK K
          refine dr_any [4, 7] HT (by kernel_rfl) (by decide) (AllReadyL.cons rfl (by decide) (fun K hK => ?_) (AllReadyL.cons rfl (by decide) (fun K hK => ?_) AllReadyL.nil))
          · refine if_wp (by rfl) ?_; refine wp_run (run_str rfl rfl Tryz.underlying194 Tryz.underlying5 Tryz.underlying9 (HS.rd 1 rfl)) ?_
            (try simp only [hpn, hpm] at HS)
            have F := HS.boxes; simp only [bxn] at F
            refine nrm 29 hK ⟨_, HS⟩ (fun HH => ?_); clear hK K
            refine dr1 7 HT fun K hK => ?_
            refine go_cl HS (spec_l07Length.calls ht13.out) Tryz.func108 ?_; clear HS; (try clear F); intro wt13 HS F
            refine nrm 32 hK ⟨_, HS⟩ (fun HH => ?_); clear hK K
            refine dr_pure 8 (some 33) HT (v := .string ((strOfNums ([(a0.f0 % 256)] : List Int)) ++ t13)) (a' := ?_) rfl rfl (by kernel_rfl) (fun _ _ _ h => h) (.inl ⟨by rfl, fun w' => (run_cat rfl rfl rfl (of_eq_true c19))⟩) ?_ ?_
            rotate_left
            · simp only [Act.put, ptn]; rfl
            refine dr_pure 10 (some 35) HT (v := .string (((strOfNums ([(a0.f0 % 256)] : List Int)) ++ t13) ++ x11)) (a' := ?_) rfl rfl (by kernel_rfl) (fun _ _ _ h => h) (.inl ⟨by rfl, fun w' => (run_cat rfl rfl rfl (of_eq_true c21))⟩) ?_ ?_
            rotate_left
            · simp only [Act.put, ptn]; rfl
            refine drq_of [(11, some 2)] ?_
            repeat (refine drp HT ?_)
            refine drq_end ?_
            refine norm_ ?_ (hJ (.slice B6 1 d6) _ (HS.arr [some 0, some 1] (by decide)))
            simp only [putAll, Act.put, ptn]
            (try rfl)
          · refine go_cl HS (spec_l07Length.calls ht13.out) Tryz.func108 ?_; clear HS; (try clear F); intro wt13 HS F
            refine nrm 32 hK ⟨_, HS⟩ (fun HH => ?_); clear hK K
            refine dr1 4 HT fun K hK => ?_
            refine if_wp (by rfl) ?_; refine wp_run (run_str rfl rfl Tryz.underlying194 Tryz.underlying5 Tryz.underlying9 (HS.rd 1 rfl)) ?_
            (try simp only [hpn, hpm] at HS)
            have F := HS.boxes; simp only [bxn] at F
            refine nrm 29 hK ⟨_, HS⟩ (fun HH => ?_); clear hK K
            refine dr_pure 8 (some 33) HT (v := .string ((strOfNums ([(a0.f0 % 256)] : List Int)) ++ t13)) (a' := ?_) rfl rfl (by kernel_rfl) (fun _ _ _ h => h) (.inl ⟨by rfl, fun w' => (run_cat rfl rfl rfl (of_eq_true c19))⟩) ?_ ?_
            rotate_left
            · simp only [Act.put, ptn]; rfl
            refine dr_pure 10 (some 35) HT (v := .string (((strOfNums ([(a0.f0 % 256)] : List Int)) ++ t13) ++ x11)) (a' := ?_) rfl rfl (by kernel_rfl) (fun _ _ _ h => h) (.inl ⟨by rfl, fun w' => (run_cat rfl rfl rfl (of_eq_true c21))⟩) ?_ ?_
            rotate_left
            · simp only [Act.put, ptn]; rfl
            refine drq_of [(11, some 2)] ?_
            repeat (refine drp HT ?_)
            refine drq_end ?_
            refine norm_ ?_ (hJ (.slice B6 1 d6) _ (HS.arr [some 0, some 1] (by decide)))
            simp only [putAll, Act.put, ptn]
            (try rfl)
        · refine go_cl HS (spec_l07Length.calls ht13.out) Tryz.func108 ?_; clear HS; (try clear F); intro wt13 HS F
          refine nrm 32 hK ⟨_, HS⟩ (fun HH => ?_); clear hK K
          refine dr1 3 HT fun K hK => ?_
          refine if_li (Zd.int .u8) [] ([(a0.f0 % 256)] : List Int) ([.int .u8 (a0.f0 % 256)] ++ []) HS (MadeL.cons (js1 := []) (c := [.int .u8 (a0.f0 % 256)]) rfl (made_flat (fun _ => rfl)) MadeL.nil (by decide)) ?_; clear HS; (try clear F); intro v6 w6 HS F; obtain ⟨B6, d6, rfl, m6⟩ := HS.formn 1 1 rfl rfl
          refine nrm 28 hK ⟨_, HS⟩ (fun HH => ?_); clear hK K
          refine dr1 4 HT fun K hK => ?_
          refine if_wp (by rfl) ?_; refine wp_run (run_str rfl rfl Tryz.underlying194 Tryz.underlying5 Tryz.underlying9 (HS.rd 1 rfl)) ?_
          (try simp only [hpn, hpm] at HS)
          have F := HS.boxes; simp only [bxn] at F
          refine nrm 29 hK ⟨_, HS⟩ (fun HH => ?_); clear hK K
          refine dr_pure 8 (some 33) HT (v := .string ((strOfNums ([(a0.f0 % 256)] : List Int)) ++ t13)) (a' := ?_) rfl rfl (by kernel_rfl) (fun _ _ _ h => h) (.inl ⟨by rfl, fun w' => (run_cat rfl rfl rfl (of_eq_true c19))⟩) ?_ ?_
          rotate_left
          · simp only [Act.put, ptn]; rfl
          refine dr_pure 10 (some 35) HT (v := .string (((strOfNums ([(a0.f0 % 256)] : List Int)) ++ t13) ++ x11)) (a' := ?_) rfl rfl (by kernel_rfl) (fun _ _ _ h => h) (.inl ⟨by rfl, fun w' => (run_cat rfl rfl rfl (of_eq_true c21))⟩) ?_ ?_
          rotate_left
          · simp only [Act.put, ptn]; rfl
          refine drq_of [(11, some 2)] ?_
          repeat (refine drp HT ?_)
          refine drq_end ?_
          refine norm_ ?_ (hJ (.slice B6 1 d6) _ (HS.arr [some 0, some 1] (by decide)))
          simp only [putAll, Act.put, ptn]
          (try rfl)
      rintro v6 w23 HS
      obtain ⟨B6, d6, rfl, m6⟩ := HS.formn 1 1 rfl (by first | rfl | simp)
      have F := HS.boxes; simp only [bxn] at F
      refine norm_ (a' := ?_) ?_ ?_
      rotate_left
      · simp only [putAll, Act.put, ptn]; rfl
      refine done_ (done_of HT.out (by kernel_rfl)) ?_
      obtain rfl := zsome H
      go_wp2
      go_ret
      exact HS.pk
theorem spec_l07Text.calls {k : Nat} {a0 : S110} {Ap0 : Option Addr} {np0 cp0 : Nat} {r : ByteArray} {w : World} (h : spec_l07Text.f k a0 = some r) (gp0 : k110.C w Ap0 np0 a0.f2) (lp0 : np0 ≤ cp0) :
    Calls Tryz.prog 77 #[.agg #[.int .i64 a0.f0, .string a0.f1, .slice Ap0 np0 cp0]] w (fun e w' => e = .returned (.string r) ∧ Hp noFP w w' []) := spec_l07Text.calls_ k (Nat.le_refl k) h gp0 lp0
/-! ### spec_ItemText: function 43 -/
def spec_ItemText.f (k : Nat) (a0 : S110) : Option (ByteArray × Bool) := ((spec_ItemOk.f k a0).bind fun t3 => (if t3 = true then ((spec_l07Text.f k a0).bind fun t6 => (if 4000 < (t6.size : Int) then (some ((⟨#[]⟩ : ByteArray), false)) else (some (t6, true)))) else (some ((⟨#[]⟩ : ByteArray), false))))
set_option maxHeartbeats 16000000 in
theorem spec_ItemText.calls {k : Nat} {a0 : S110} {Ap0 : Option Addr} {np0 cp0 : Nat} {r1 : ByteArray} {r2 : Bool} {w : World} (h : spec_ItemText.f k a0 = some (r1, r2)) (gp0 : k110.C w Ap0 np0 a0.f2) (lp0 : np0 ≤ cp0) :
    Calls Tryz.prog 43 #[.agg #[.int .i64 a0.f0, .string a0.f1, .slice Ap0 np0 cp0]] w (fun e w' => e = .returned (.tuple #[.string r1, .bool r2]) ∧ Hp noFP w w' []) := by
 obtain rfl := C_len gp0
 have HS := Hp.start w
 have H := Aside0.mk h
 clear h
 unfold spec_ItemText.f at H
 go_enter Tryz.func43, Tryz.ntmps43
 replace H := zbind H; obtain ⟨t3, ht3, H⟩ := H
 go_upto_if 7 with (first | ((with_reducible refine gd 1 rfl ?_); refine ev_bx HS ?_; clear HS; (try clear F); intro g1 w1 HS F) | ((with_reducible refine gd 6 rfl ?_); refine ev_cl HS (spec_ItemOk.calls ht3.out (HS.ro gp0) lp0) Tryz.func76 ?_; clear HS; (try clear F); intro wt3 HS F))
 replace H := znifb H; rcases H with ⟨c5, H⟩ | ⟨c5, H⟩
 case inl =>
  subst c5
  (try simp only [dcn, if_true, Bool.false_eq_true, if_false])
  obtain ⟨rfl, rfl⟩ := zsome2 H
  go_wp2
  exact bodyPost_ret (results_list (rs := [.tmp 2, .tmp 3]) rfl (by simp) (.tmp (.tmp .nil))) rfl ⟨rfl, HS.pick [] (by decide) (by rfl)⟩
 subst c5
 (try simp only [dcn, if_true, Bool.false_eq_true, if_false])
 replace H := zbind H; obtain ⟨t6, ht6, H⟩ := H
 go_upto_if 12 with (first | ((with_reducible refine gd 9 rfl ?_); refine ev_cl HS (spec_l07Text.calls ht6.out (HS.ro gp0) lp0) Tryz.func77 ?_; clear HS; (try clear F); intro wt6 HS F))
 replace H := zif H; rcases H with ⟨c8, H⟩ | ⟨c8, H⟩
 case inl =>
  (try simp only [c8, dcn])
  obtain ⟨rfl, rfl⟩ := zsome2 H
  go_wp2
  exact bodyPost_ret (results_list (rs := [.tmp 2, .tmp 3]) rfl (by simp) (.tmp (.tmp .nil))) rfl ⟨rfl, HS.pick [] (by decide) (by rfl)⟩
 (try simp only [c8, dcn])
 obtain ⟨rfl, rfl⟩ := zsome2 H
 go_wp2
 exact bodyPost_ret (results_list (rs := [.tmp 2, .tmp 3]) rfl (by simp) (.tmp (.tmp .nil))) rfl ⟨rfl, HS.pick [] (by decide) (by rfl)⟩
/-! ### spec_l09Bytes: function 45 -/
def spec_l09Bytes.f (a0 : ByteArray) : Option (S110) := (some (⟨4, a0, ([] : List S110)⟩ : S110))
set_option maxHeartbeats 16000000 in
theorem spec_l09Bytes.calls {a0 : ByteArray} {r : S110} {w : World} (h : spec_l09Bytes.f a0 = some r) :
    Calls Tryz.prog 45 #[.string a0] w (fun e w' => ∃ v0_ : Value, e = .returned (.agg #[.int .i64 r.f0, .string r.f1, v0_]) ∧ Hp noFP w w' [.own (Zd.slice 110 q110) r.f2 [v0_]]) := by
 have HS := Hp.start w
 have H := Aside0.mk h
 clear h
 unfold spec_l09Bytes.f at H
 go_enter Tryz.func45, Tryz.ntmps45
 obtain rfl := zsome H
 go_wp2_with (first | ((with_reducible refine gd 2 rfl ?_); refine ev_bx HS ?_; clear HS; (try clear F); intro g2 w2 HS F) | ((with_reducible refine gate_store (p := 2) rfl ?_); refine ev_st 0 0 HS (seg := [.int .i64 4, .string a0, .slice none 0 0]) ?_; clear HS; (try clear F); intro w3 HS F))
 replace HS := HS.nil 110 q110
 exact bodyPost_ret (results_single rfl (.cell _ _ _ _ _ rfl (HS.boxAt (i := 0) rfl) Tryz.underlying110 rfl (by kernel_rfl) .nil)) rfl ⟨_, rfl, HS.pick [1] (by decide) (by rfl)⟩
/-! ### spec_IntItem: function 78 -/
mutual
def spec_IntItem.l0 : Nat → Int → ByteArray → Option (S110)
  | 0, _, _ => none
  | k + 1, x15, x16 => (if 0 < x15 then (if (strOfNums ([((Int.tmod x15 256) % 256)] : List Int)).size + x16.size ≤ 9223372036854775807 then (spec_IntItem.l0 k (wrap64 (Int.tdiv x15 256)) ((strOfNums ([((Int.tmod x15 256) % 256)] : List Int)) ++ x16)) else none) else (if x16.toList = ([] : List UInt8) then (if (⟨#[0]⟩ : ByteArray).size + x16.size ≤ 9223372036854775807 then (some (⟨2, ((⟨#[0]⟩ : ByteArray) ++ x16), ([] : List S110)⟩ : S110)) else none) else (if 0 < (x16.size : Int) then (if 128 ≤ (bt x16 0) then (if (⟨#[0]⟩ : ByteArray).size + x16.size ≤ 9223372036854775807 then (some (⟨2, ((⟨#[0]⟩ : ByteArray) ++ x16), ([] : List S110)⟩ : S110)) else none) else (some (⟨2, x16, ([] : List S110)⟩ : S110))) else none)))
def spec_IntItem.l1 : Nat → Int → ByteArray → Option (S110)
  | 0, _, _ => none
  | k + 1, x44, x45 => (if 0 < x44 then (if (strOfNums ([((Int.tmod x44 256) % 256)] : List Int)).size + x45.size ≤ 9223372036854775807 then (spec_IntItem.l1 k (wrap64 (Int.tdiv x44 256)) ((strOfNums ([((Int.tmod x44 256) % 256)] : List Int)) ++ x45)) else none) else (if x45.toList = ([] : List UInt8) then (if (⟨#[0]⟩ : ByteArray).size + x45.size ≤ 9223372036854775807 then (some (⟨2, ((⟨#[0]⟩ : ByteArray) ++ x45), ([] : List S110)⟩ : S110)) else none) else (if 0 < (x45.size : Int) then (if 128 ≤ (bt x45 0) then (if (⟨#[0]⟩ : ByteArray).size + x45.size ≤ 9223372036854775807 then (some (⟨2, ((⟨#[0]⟩ : ByteArray) ++ x45), ([] : List S110)⟩ : S110)) else none) else (some (⟨2, x45, ([] : List S110)⟩ : S110))) else none)))
end
def spec_IntItem.f (k : Nat) (a0 : Int) : Option (S110) := ((spec_l01In.f a0 0 1000000000).bind fun t3 => (if t3 = true then (spec_IntItem.l0 k a0 (⟨#[]⟩ : ByteArray)) else (spec_IntItem.l1 k 0 (⟨#[]⟩ : ByteArray))))
set_option maxHeartbeats 16000000 in
theorem spec_IntItem.calls {k : Nat} {a0 : Int} {r : S110} {w : World} (h : spec_IntItem.f k a0 = some r) :
    Calls Tryz.prog 78 #[.int .i64 a0] w (fun e w' => ∃ v0_ : Value, e = .returned (.agg #[.int .i64 r.f0, .string r.f1, v0_]) ∧ Hp noFP w w' [.own (Zd.slice 110 q110) r.f2 [v0_]]) := by
 have HS := Hp.start w
 have H := Aside0.mk h
 clear h
 unfold spec_IntItem.f at H
 go_enter Tryz.func78, Tryz.ntmps78
 replace H := zbind H; obtain ⟨t3, ht3, H⟩ := H
 go_upto_if 6 with (first | ((with_reducible refine gd 2 rfl ?_); refine ev_bx HS ?_; clear HS; (try clear F); intro g2 w2 HS F) | ((with_reducible refine gd 5 rfl ?_); refine ev_cl HS (spec_l01In.calls ht3.out) Tryz.func74 ?_; clear HS; (try clear F); intro wt3 HS F))
 replace H := zifb H; rcases H with ⟨c5, H⟩ | ⟨c5, H⟩
 case inl =>
  subst c5
  (try simp only [dcn, if_true, Bool.false_eq_true, if_false])
  go_wp2
  go_loopg [0, 3] k (fun kq v_0 v_3 w' => ∃ (x15 : Int) (x16 : ByteArray), v_0 = .int .i64 x15 ∧ v_3 = .string x16 ∧ Aside0 (spec_IntItem.l0 kq x15 x16 = some r) ∧ Aside0 (kq ≤ k) ∧ Hp noFP w w' [.box g2 [.int .i64 0, .string (⟨#[]⟩ : ByteArray), .slice none 0 0] 110])
  case atStart => exact ⟨_, _, rfl, rfl, H, ⟨Nat.le_refl _⟩, HS⟩
  case round =>
   clear HS H; (try clear F)
   obtain ⟨x15, x16, rfl, rfl, H, HKk14, HS⟩ := hrel
   have F := HS.boxes; simp only [bxn] at F
   cases gk with
   | zero => exact absurd H.out (by simp [spec_IntItem.l0])
   | succ k14 =>
    simp only [spec_IntItem.l0] at H
    replace H := zif H; rcases H with ⟨c18, H⟩ | ⟨c18, H⟩
    case inl =>
     replace H := zgo H; obtain ⟨c21, H⟩ := H
     go_wp2_with (first | ((with_reducible refine gd 12 rfl ?_); refine ev_li (Zd.int .u8) [] ([((Int.tmod x15 256) % 256)] : List Int) ([.int .u8 ((Int.tmod x15 256) % 256)] ++ []) HS (MadeL.cons (js1 := []) (c := [.int .u8 ((Int.tmod x15 256) % 256)]) rfl (made_flat (fun _ => rfl)) MadeL.nil (by decide)) ?_; clear HS; (try clear F); intro v19 w19 HS F; obtain ⟨B19, d19, rfl, m19⟩ := HS.formn 1 1 rfl rfl) | ((with_reducible refine gd 13 rfl ?_); refine ev_val rfl (run_str rfl rfl Tryz.underlying194 Tryz.underlying5 Tryz.underlying9 (HS.rd 1 rfl)) ?_) | ((with_reducible refine gd 15 rfl ?_); refine ev_val rfl (run_cat rfl rfl rfl (of_eq_true c21)) ?_))
     go_roundg k14
     case measure => have := HKk14.out; omega
     case rel => exact ⟨_, _, rfl, rfl, H, ⟨by have := HKk14.out; omega⟩, HS.pick [0] (by decide) (by rfl)⟩
    replace H := zif' H; rcases H with ⟨c22, H⟩ | ⟨c22, H⟩
    case inl =>
     have c22a := beq_iff_eq.mpr c22
     have c22b := bne_eq_false_iff_eq.mpr c22
     have c22e := List.isEmpty_iff.mpr c22
     clear c22
     replace H := zgo H; obtain ⟨c23, H⟩ := H
     obtain rfl := zsome H
     go_wp2_with (first | ((with_reducible refine gd 26 rfl ?_); refine ev_val rfl (run_cat rfl rfl rfl (of_eq_true c23)) ?_) | ((with_reducible refine gate_store (p := 2) rfl ?_); refine ev_st 0 0 HS (seg := [.int .i64 2, .string ((⟨#[0]⟩ : ByteArray) ++ x16), .slice none 0 0]) ?_; clear HS; (try clear F); intro w24 HS F))
     replace HS := HS.nil 110 q110
     exact bodyPost_ret (results_single rfl (.cell _ _ _ _ _ rfl (HS.boxAt (i := 0) rfl) Tryz.underlying110 rfl (by kernel_rfl) .nil)) rfl ⟨_, rfl, HS.pick [1] (by decide) (by rfl)⟩
    have c22a := beq_eq_false_iff_ne.mpr c22
    have c22b := bne_iff_ne.mpr c22
    have c22e := List.isEmpty_eq_false_iff.mpr c22
    clear c22
    replace H := zgo H; obtain ⟨c26, H⟩ := H
    have c26n : (0 < x16.size) = True := eq_true (by have := of_eq_true c26; omega)
    have hx27 : ∀ h : 0 < x16.size, ((x16[0]'h).toNat : Int) = bt x16 0 := bt_at x16 0
    have hz28 : 0 < x16.size := (by have := of_eq_true c26; omega)
    replace H := znif H; rcases H with ⟨c29, H⟩ | ⟨c29, H⟩
    case inl =>
     obtain rfl := zsome H
     go_wp2_with (first | ((with_reducible refine gate_store (p := 2) rfl ?_); refine ev_st 0 0 HS (seg := [.int .i64 2, .string x16, .slice none 0 0]) ?_; clear HS; (try clear F); intro w33 HS F))
     replace HS := HS.nil 110 q110
     exact bodyPost_ret (results_single rfl (.cell _ _ _ _ _ rfl (HS.boxAt (i := 0) rfl) Tryz.underlying110 rfl (by kernel_rfl) .nil)) rfl ⟨_, rfl, HS.pick [1] (by decide) (by rfl)⟩
    replace H := zgo H; obtain ⟨c30, H⟩ := H
    obtain rfl := zsome H
    go_wp2_with (first | ((with_reducible refine gd 26 rfl ?_); refine ev_val rfl (run_cat rfl rfl rfl (of_eq_true c30)) ?_) | ((with_reducible refine gate_store (p := 2) rfl ?_); refine ev_st 0 0 HS (seg := [.int .i64 2, .string ((⟨#[0]⟩ : ByteArray) ++ x16), .slice none 0 0]) ?_; clear HS; (try clear F); intro w31 HS F))
    replace HS := HS.nil 110 q110
    exact bodyPost_ret (results_single rfl (.cell _ _ _ _ _ rfl (HS.boxAt (i := 0) rfl) Tryz.underlying110 rfl (by kernel_rfl) .nil)) rfl ⟨_, rfl, HS.pick [1] (by decide) (by rfl)⟩
 subst c5
 (try simp only [dcn, if_true, Bool.false_eq_true, if_false])
 go_wp2
 go_loopg [0, 3] k (fun kq v_0 v_3 w' => ∃ (x44 : Int) (x45 : ByteArray), v_0 = .int .i64 x44 ∧ v_3 = .string x45 ∧ Aside0 (spec_IntItem.l1 kq x44 x45 = some r) ∧ Aside0 (kq ≤ k) ∧ Hp noFP w w' [.box g2 [.int .i64 0, .string (⟨#[]⟩ : ByteArray), .slice none 0 0] 110])
 case atStart => exact ⟨_, _, rfl, rfl, H, ⟨Nat.le_refl _⟩, HS⟩
 case round =>
  clear HS H; (try clear F)
  obtain ⟨x44, x45, rfl, rfl, H, HKk43, HS⟩ := hrel
  have F := HS.boxes; simp only [bxn] at F
  cases gk with
  | zero => exact absurd H.out (by simp [spec_IntItem.l1])
  | succ k43 =>
   simp only [spec_IntItem.l1] at H
   replace H := zif H; rcases H with ⟨c47, H⟩ | ⟨c47, H⟩
   case inl =>
    replace H := zgo H; obtain ⟨c50, H⟩ := H
    go_wp2_with (first | ((with_reducible refine gd 12 rfl ?_); refine ev_li (Zd.int .u8) [] ([((Int.tmod x44 256) % 256)] : List Int) ([.int .u8 ((Int.tmod x44 256) % 256)] ++ []) HS (MadeL.cons (js1 := []) (c := [.int .u8 ((Int.tmod x44 256) % 256)]) rfl (made_flat (fun _ => rfl)) MadeL.nil (by decide)) ?_; clear HS; (try clear F); intro v48 w48 HS F; obtain ⟨B48, d48, rfl, m48⟩ := HS.formn 1 1 rfl rfl) | ((with_reducible refine gd 13 rfl ?_); refine ev_val rfl (run_str rfl rfl Tryz.underlying194 Tryz.underlying5 Tryz.underlying9 (HS.rd 1 rfl)) ?_) | ((with_reducible refine gd 15 rfl ?_); refine ev_val rfl (run_cat rfl rfl rfl (of_eq_true c50)) ?_))
    go_roundg k43
    case measure => have := HKk43.out; omega
    case rel => exact ⟨_, _, rfl, rfl, H, ⟨by have := HKk43.out; omega⟩, HS.pick [0] (by decide) (by rfl)⟩
   replace H := zif' H; rcases H with ⟨c51, H⟩ | ⟨c51, H⟩
   case inl =>
    have c51a := beq_iff_eq.mpr c51
    have c51b := bne_eq_false_iff_eq.mpr c51
    have c51e := List.isEmpty_iff.mpr c51
    clear c51
    replace H := zgo H; obtain ⟨c52, H⟩ := H
    obtain rfl := zsome H
    go_wp2_with (first | ((with_reducible refine gd 26 rfl ?_); refine ev_val rfl (run_cat rfl rfl rfl (of_eq_true c52)) ?_) | ((with_reducible refine gate_store (p := 2) rfl ?_); refine ev_st 0 0 HS (seg := [.int .i64 2, .string ((⟨#[0]⟩ : ByteArray) ++ x45), .slice none 0 0]) ?_; clear HS; (try clear F); intro w53 HS F))
    replace HS := HS.nil 110 q110
    exact bodyPost_ret (results_single rfl (.cell _ _ _ _ _ rfl (HS.boxAt (i := 0) rfl) Tryz.underlying110 rfl (by kernel_rfl) .nil)) rfl ⟨_, rfl, HS.pick [1] (by decide) (by rfl)⟩
   have c51a := beq_eq_false_iff_ne.mpr c51
   have c51b := bne_iff_ne.mpr c51
   have c51e := List.isEmpty_eq_false_iff.mpr c51
   clear c51
   replace H := zgo H; obtain ⟨c55, H⟩ := H
   have c55n : (0 < x45.size) = True := eq_true (by have := of_eq_true c55; omega)
   have hx56 : ∀ h : 0 < x45.size, ((x45[0]'h).toNat : Int) = bt x45 0 := bt_at x45 0
   have hz57 : 0 < x45.size := (by have := of_eq_true c55; omega)
   replace H := znif H; rcases H with ⟨c58, H⟩ | ⟨c58, H⟩
   case inl =>
    obtain rfl := zsome H
    go_wp2_with (first | ((with_reducible refine gate_store (p := 2) rfl ?_); refine ev_st 0 0 HS (seg := [.int .i64 2, .string x45, .slice none 0 0]) ?_; clear HS; (try clear F); intro w62 HS F))
    replace HS := HS.nil 110 q110
    exact bodyPost_ret (results_single rfl (.cell _ _ _ _ _ rfl (HS.boxAt (i := 0) rfl) Tryz.underlying110 rfl (by kernel_rfl) .nil)) rfl ⟨_, rfl, HS.pick [1] (by decide) (by rfl)⟩
   replace H := zgo H; obtain ⟨c59, H⟩ := H
   obtain rfl := zsome H
   go_wp2_with (first | ((with_reducible refine gd 26 rfl ?_); refine ev_val rfl (run_cat rfl rfl rfl (of_eq_true c59)) ?_) | ((with_reducible refine gate_store (p := 2) rfl ?_); refine ev_st 0 0 HS (seg := [.int .i64 2, .string ((⟨#[0]⟩ : ByteArray) ++ x45), .slice none 0 0]) ?_; clear HS; (try clear F); intro w60 HS F))
   replace HS := HS.nil 110 q110
   exact bodyPost_ret (results_single rfl (.cell _ _ _ _ _ rfl (HS.boxAt (i := 0) rfl) Tryz.underlying110 rfl (by kernel_rfl) .nil)) rfl ⟨_, rfl, HS.pick [1] (by decide) (by rfl)⟩
/-! ### spec_l14Texts: function 79 -/
def spec_l14Texts.l0 : Nat → (List S110) → Int → (List ByteArray) → Option (S110)
  | 0, _, _, _ => none
  | k + 1, l19, x21, a0 => (if x21 < (a0.length : Int) then (if 0 ≤ x21 then (if x21 < (a0.length : Int) then ((spec_l09Bytes.f (rdOf ByteArray.empty a0 x21)).bind fun t9 => (if l19.length + 1 ≤ 2932031007402 then (lets (l19 ++ ([t9] : List S110)) fun y13 => (spec_l14Texts.l0 k y13 (wrap64 (x21 + 1)) a0)) else none)) else none) else none) else (some (⟨48, (⟨#[]⟩ : ByteArray), l19⟩ : S110)))
def spec_l14Texts.f (k : Nat) (a0 : (List ByteArray)) : Option (S110) := (spec_l14Texts.l0 k [] 0 a0)
def spec_l14Texts.T5 : Bool × List (List Nat × List Nat) := (true, [([], []), ([0], [0]), ([], []), ([], []), ([2, 3], [2, 3]), ([4], [4]), ([5], [5]), ([6], [6]), ([1, 7, 6], [1, 7]), ([0, 1, 2, 3, 4, 5, 6, 7, 8], []), ([9, 8, 8, 0, 1, 2, 3, 4, 5, 6, 7, 8], [8, 9])])
theorem spec_l14Texts.tT5 : rtab .any (opsOf Tryz.f79 5) = spec_l14Texts.T5 := by kernel_rfl
set_option maxHeartbeats 16000000 in
theorem spec_l14Texts.calls {k : Nat} {a0 : (List ByteArray)} {Ap0 : Option Addr} {np0 cp0 : Nat} {r : S110} {w : World} (h : spec_l14Texts.f k a0 = some r) (gp0 : Kd.string.C w Ap0 np0 a0) (lp0 : np0 ≤ cp0) :
    Calls Tryz.prog 79 #[.slice Ap0 np0 cp0] w (fun e w' => ∃ v0_ : Value, e = .returned (.agg #[.int .i64 r.f0, .string r.f1, v0_]) ∧ Hp noFP w w' [.own (Zd.slice 110 q110) r.f2 [v0_]]) := by
 obtain rfl := C_len gp0
 have HS := Hp.start w
 have H := Aside0.mk h
 clear h
 unfold spec_l14Texts.f at H
 go_enter Tryz.func79, Tryz.ntmps79
 go_wp2_with (first | ((with_reducible refine gd 2 rfl ?_); refine ev_bx HS ?_; clear HS; (try clear F); intro g2 w2 HS F) | ((with_reducible refine gd 3 rfl ?_); refine ev_bx HS ?_; clear HS; (try clear F); intro g3 w3 HS F) | ((with_reducible refine gate_store (p := 3) rfl ?_); refine ev_st 1 0 HS (seg := [.int .i64 48, .string (⟨#[]⟩ : ByteArray), .slice none 0 0]) ?_; clear HS; (try clear F); intro w5 HS F))
 replace HS := HS.nil 110 q110
 go_loopg [4] k (fun kq v_4 w' => ∃ (l19 : List S110) (v20 : Value) (x21 : Int), v_4 = .int .i64 x21 ∧ Aside0 (spec_l14Texts.l0 kq l19 x21 a0 = some r) ∧ Aside0 (kq ≤ k) ∧ Hp noFP w w' [.box g2 [.int .i64 0, .string (⟨#[]⟩ : ByteArray), .slice none 0 0] 110, .box g3 [.int .i64 48, .string (⟨#[]⟩ : ByteArray), v20] 110, .own (Zd.slice 110 q110) l19 [v20]])
 case atStart => exact ⟨_, _, _, rfl, H, ⟨Nat.le_refl _⟩, HS⟩
 case round =>
  clear HS H; (try clear F)
  obtain ⟨l19, v20, x21, rfl, H, HKk18, HS⟩ := hrel
  obtain ⟨B20, d20, rfl, m20⟩ := HS.form 2 rfl
  have F := HS.boxes; simp only [bxn] at F
  cases gk with
  | zero => exact absurd H.out (by simp [spec_l14Texts.l0])
  | succ k18 =>
   simp only [spec_l14Texts.l0] at H
   replace H := znif H; rcases H with ⟨c23, H⟩ | ⟨c23, H⟩
   case inl =>
    obtain rfl := zsome H
    go_wp2_with (first | ((with_reducible refine gate_store (p := 2) rfl ?_); refine ev_st 0 0 HS (seg := [.int .i64 48, .string (⟨#[]⟩ : ByteArray), .slice B20 l19.length d20]) ?_; clear HS; (try clear F); intro w27 HS F))
    exact bodyPost_ret (results_single rfl (.cell _ _ _ _ _ rfl (HS.boxAt (i := 0) rfl) Tryz.underlying110 rfl (by kernel_rfl) .nil)) rfl ⟨_, rfl, HS.pick [2] (by decide) (by rfl)⟩
   (try go_wp2)
   replace H := zgo H; obtain ⟨c6, H⟩ := H
   replace H := zgo H; obtain ⟨c7, H⟩ := H
   obtain ⟨ad8, rfl, e8_0⟩ := Kd.at_string gp0 x21 (of_eq_true c6) (of_eq_true c7)
   replace H := zbind H; obtain ⟨t9, ht9, H⟩ := H
   replace H := zgo H; obtain ⟨c12, H⟩ := H
   replace H := zlets H; obtain ⟨y13, e_y13, H⟩ := H
   refine dr_start2 [.box g2 [.int .i64 0, .string (⟨#[]⟩ : ByteArray), .slice none 0 0] 110, .box g3 [.int .i64 48, .string (⟨#[]⟩ : ByteArray), .slice B20 l19.length d20] 110, .emp] [10] HS (HS.arr [some 0, some 1, none] (by decide)) #[false, false, false, false, false, false, false, false, false, false, false] (by kernel_rfl) rfl rfl spec_l14Texts.tT5 (fun w25 HT HS HH => ?_)
   (try clear F)
   refine drq_of [(0, some 12), (1, some 13), (2, some 14), (3, some 15), (4, some 16)] ?_
   repeat (first | refine drp HT ?_ | refine drt HT HH ?_)
   refine drq_end ?_
   refine dr_take 5 (some 17) HT HH (v := ?_) (a' := ?_) rfl rfl (by kernel_rfl) (fun _ _ _ h => h) (.inl ⟨by rfl, ?_⟩) ?_ ?_
   rotate_left
   · rintro w' ⟨rs', HS'⟩; have e8_0 := (HS'.keepc e8_0); go_simp; with_reducible rfl
   rotate_left
   · simp only [Act.put, ptn]; rfl
   refine dr1 6 HT fun K hK => ?_
   refine go_cl1 HS (spec_l09Bytes.calls ht9.out) Tryz.func45 ?_; clear HS; (try clear F); intro v10 wt9 HS F; obtain ⟨B10, d10, rfl, m10⟩ := HS.form 3 rfl
   refine hK.out _ _ ⟨[], HS.arr [some 0, some 1, none] (by decide)⟩ (fun HH => ?_)
   clear hK K
   refine norm_ (a' := ?_) ?_ ?_
   rotate_left
   · show Act.put _ (some 18) _ = _; simp only [Act.put, ptn]; rfl
   refine dr1 7 HT fun K hK => ?_
   refine if_li q110 [3] ([t9] : List S110) ([.int .i64 t9.f0, .string t9.f1, .slice B10 t9.f2.length d10] ++ []) HS (MadeL.cons (js1 := [3]) (c := [.int .i64 t9.f0, .string t9.f1, .slice B10 t9.f2.length d10]) rfl (fun S hd hh => q110_pack (x := t9) hd (hh 3 (.own (Zd.slice 110 q110) t9.f2 [.slice B10 t9.f2.length d10]) rfl) (by decide)) MadeL.nil (by decide)) ?_; clear HS; (try clear F); intro v11 w11 HS F; obtain ⟨B11, d11, rfl, m11⟩ := HS.formn 1 4 rfl rfl
   refine hK.out _ _ ⟨[], HS.arr [some 0, some 1, none] (by decide)⟩ (fun HH => ?_)
   clear hK K
   refine norm_ (a' := ?_) ?_ ?_
   rotate_left
   · show Act.put _ (some 19) _ = _; simp only [Act.put, ptn]; rfl
   refine dr1 8 HT fun K hK => ?_
   refine wp_ap q110 2 4 HS rfl rfl Tryz.underlying108 info110 (of_eq_true c12) ?_; clear HS; (try clear F); intro v13 w13 HS; rw [← e_y13.out] at HS; obtain ⟨B13, d13, rfl, m13⟩ := HS.form 5 rfl
   (try simp only [hpn, hpm] at HS)
   have F := HS.boxes; simp only [bxn] at F
   refine hK.out _ _ ⟨[], HS.arr [some 0, some 1, none] (by decide)⟩ (fun HH => ?_)
   clear hK K
   refine norm_ (a' := ?_) ?_ ?_
   rotate_left
   · show Act.put _ (some 20) _ = _; simp only [Act.put, ptn]; rfl
   refine drq_of [(9, some 21)] ?_
   repeat (refine drp HT ?_)
   refine drq_end ?_
   refine dr_last 10 HT rfl (by kernel_rfl) (by decide) (fun K hK => ?_)
   refine if_st 1 2 HS (seg := [.slice B13 y13.length d13]) ?_; clear HS; (try clear F); intro w14 HS F
   refine hK.out _ _ ?_
   clear hK K
   refine done_ (done_of HT.out (by kernel_rfl)) ?_
   (try clear F)
   have F := HS.boxes; simp only [bxn] at F
   go_wp2
   go_roundg k18
   case measure => have := HKk18.out; omega
   case rel => exact ⟨_, _, _, rfl, H, ⟨by have := HKk18.out; omega⟩, HS.pick [0, 1, 5] (by decide) (by rfl)⟩
end Go.Proofs.YtfiifjlapaefaaaGreat.F
