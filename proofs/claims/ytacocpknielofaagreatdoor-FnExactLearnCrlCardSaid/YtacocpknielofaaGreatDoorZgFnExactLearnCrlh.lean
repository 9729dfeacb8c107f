/- Functions of the program and of the law, and that their calls do what is written here. -/
import Derived.Test.YtacocpknielofaaGreatDoorZgFnExactLearnCrlg
namespace Go.Proofs.YtacocpknielofaaGreatDoor.F
open Go.RowKit YtacocpknielofaaGreatDoorW.PrintWords YtacocpknielofaaGreatDoorW.PrintLast YtacocpknielofaaGreatDoorW.PrintMore Z
attribute [local go_sem] max2_int min2_int max_two min_two max_three min_three max_four min_four
set_option linter.unusedVariables false
set_option linter.unusedSimpArgs false
set_option maxRecDepth 100000
set_option maxHeartbeats 16000000
def impl_ItemOk.f (k : Nat) (a0 : S182) : Option (Bool) := ((impl_itemOk.f k a0 0).bind fun t3 => (some t3))
theorem impl_ItemOk.calls {k : Nat} {a0 : S182} {Ap0 : Option Addr} {np0 cp0 : Nat} {r : Bool} {w : World} (h : impl_ItemOk.f k a0 = some r) (gp0 : k182.C w Ap0 np0 a0.f2) (lp0 : np0 ≤ cp0) :
    Calls Tryz.prog 199 #[.agg #[.int .i64 a0.f0, .string a0.f1, .slice Ap0 np0 cp0]] w (fun e w' => e = .returned (.bool r) ∧ Hp noFP w w' []) := by
 obtain rfl := C_len gp0
 have HS := Hp.start w
 have H := Aside0.mk h
 clear h
 unfold impl_ItemOk.f at H
 go_enter Tryz.func199, Tryz.ntmps199
 replace H := zbind H; obtain ⟨t3, ht3, H⟩ := H
 obtain rfl := zsome H
 go_wp2_with (first | ((with_reducible refine gd 1 rfl ?_); refine ev_bx HS ?_; clear HS; intro g1 w1 HS F) | ((with_reducible refine gd 4 rfl ?_); refine ev_cl HS (impl_itemOk.calls ht3.out (HS.ro gp0) lp0) Tryz.func227 ?_; clear HS; intro wt3 HS F))
 go_ret
 exact HS.pk
def impl_lengthText.l0 : Nat → (List Int) → Int → Option (ByteArray)
  | 0, _, _ => none
  | k + 1, l14, x16 => (if 0 < x16 then (if 1 + l14.length ≤ 140737488355328 then (lets (([(x16 % 256)] : List Int) ++ l14) fun y22 => (impl_lengthText.l0 k y22 (x16 / 256))) else none) else (if 1 + l14.length ≤ 140737488355328 then (lets (([((wrap64 (128 + (l14.length : Int))) % 256)] : List Int) ++ l14) fun y27 => (some (strOfNums y27))) else none))
def impl_lengthText.f (k : Nat) (a0 : Int) : Option (ByteArray) := (if a0 < 128 then (some (strOfNums ([(a0 % 256)] : List Int))) else (impl_lengthText.l0 k [] a0))
theorem impl_lengthText.calls {k : Nat} {a0 : Int} {r : ByteArray} {w : World} (h : impl_lengthText.f k a0 = some r) :
    Calls Tryz.prog 228 #[.int .i64 a0] w (fun e w' => e = .returned (.string r) ∧ Hp noFP w w' []) := by
 have HS := Hp.start w
 have H := Aside0.mk h
 clear h
 unfold impl_lengthText.f at H
 go_enter Tryz.func228, Tryz.ntmps228
 replace H := zif H; rcases H with ⟨c1, H⟩ | ⟨c1, H⟩
 case inl =>
  obtain rfl := zsome H
  go_wp2_with (first | ((with_reducible refine gd 9 rfl ?_); refine ev_li (Zd.int .u8) [] ([(a0 % 256)] : List Int) ([.int .u8 (a0 % 256)] ++ []) HS (MadeL.cons (js1 := []) (c := [.int .u8 (a0 % 256)]) rfl (made_flat (fun _ => rfl)) MadeL.nil (by decide)) ?_; clear HS; intro v2 w2 HS F; obtain ⟨B2, d2, rfl, m2⟩ := HS.formn 1 0 rfl rfl) | ((with_reducible refine gd 10 rfl ?_); refine ev_val rfl (run_str rfl rfl Tryz.underlying225 Tryz.underlying5 Tryz.underlying9 (HS.rd 0 rfl)) ?_))
  go_ret
  exact HS.pk
 go_wp2
 replace HS := HS.nil 5 (Zd.int .u8)
 go_loopg [3, 4] k (fun kq v_3 v_4 w' => ∃ (l14 : List Int) (v15 : Value) (x16 : Int), v_3 = v15 ∧ v_4 = .int .i64 x16 ∧ Aside0 (impl_lengthText.l0 kq l14 x16 = some r) ∧ Aside0 (kq ≤ k) ∧ Hp noFP w w' [.own (Zd.slice 5 (Zd.int .u8)) l14 [v15]])
 case atStart => exact ⟨_, _, _, rfl, rfl, H, ⟨Nat.le_refl _⟩, HS⟩
 case round =>
  clear HS H; (try clear F)
  obtain ⟨l14, v15, x16, rfl, rfl, H, HKk13, HS⟩ := hrel
  obtain ⟨B15, d15, rfl, m15⟩ := HS.form 0 rfl
  cases gk with
  | zero => exact absurd H.out (by simp [impl_lengthText.l0])
  | succ k13 =>
   simp only [impl_lengthText.l0] at H
   replace H := zif H; rcases H with ⟨c18, H⟩ | ⟨c18, H⟩
   case inl =>
    replace H := zgo H; obtain ⟨c21, H⟩ := H
    replace H := zlets H; obtain ⟨y22, e_y22, H⟩ := H
    go_wp2_with (first | ((with_reducible refine gd 18 rfl ?_); refine ev_li (Zd.int .u8) [] ([(x16 % 256)] : List Int) ([.int .u8 (x16 % 256)] ++ []) HS (MadeL.cons (js1 := []) (c := [.int .u8 (x16 % 256)]) rfl (made_flat (fun _ => rfl)) MadeL.nil (by decide)) ?_; clear HS; intro v19 w19 HS F; obtain ⟨B19, d19, rfl, m19⟩ := HS.formn 1 1 rfl rfl) | ((with_reducible refine gd 20 rfl ?_); refine ev_apr (flat_int _) 1 HS rfl (HS.rd 0 rfl) Tryz.underlying225 info5 (of_eq_true c21) ?_; clear HS; intro v22 w22 HS; rw [← e_y22.out] at HS; obtain ⟨B22, d22, rfl, m22⟩ := HS.form 2 rfl; (try simp only [hpn, hpm] at HS)))
    go_roundg k13
    case measure => have := HKk13.out; omega
    case rel => exact ⟨_, _, _, rfl, rfl, H, ⟨by have := HKk13.out; omega⟩, HS.pick [2] (by decide) (by rfl)⟩
   replace H := zgo H; obtain ⟨c26, H⟩ := H
   replace H := zlets H; obtain ⟨y27, e_y27, H⟩ := H
   obtain rfl := zsome H
   go_wp2_with (first | ((with_reducible refine gd 25 rfl ?_); refine ev_li (Zd.int .u8) [] ([((wrap64 (128 + (l14.length : Int))) % 256)] : List Int) ([.int .u8 ((wrap64 (128 + (l14.length : Int))) % 256)] ++ []) HS (MadeL.cons (js1 := []) (c := [.int .u8 ((wrap64 (128 + (l14.length : Int))) % 256)]) rfl (made_flat (fun _ => rfl)) MadeL.nil (by decide)) ?_; clear HS; intro v24 w24 HS F; obtain ⟨B24, d24, rfl, m24⟩ := HS.formn 1 1 rfl rfl) | ((with_reducible refine gd 27 rfl ?_); refine ev_apr (flat_int _) 1 HS rfl (HS.rd 0 rfl) Tryz.underlying225 info5 (of_eq_true c26) ?_; clear HS; intro v27 w27 HS; rw [← e_y27.out] at HS; obtain ⟨B27, d27, rfl, m27⟩ := HS.form 2 rfl; (try simp only [hpn, hpm] at HS)) | ((with_reducible refine gd 28 rfl ?_); refine ev_val rfl (run_str rfl rfl Tryz.underlying225 Tryz.underlying5 Tryz.underlying9 (HS.rd 2 rfl)) ?_))
   go_ret
   exact HS.pk
mutual
def impl_itemText.l0 : Nat → (List Int) → Int → S182 → Option (ByteArray)
  | 0, _, _, _ => none
  | k + 1, l19, x21, a0 => (if x21 < (a0.f2.length : Int) then (if 0 ≤ x21 then (if x21 < (a0.f2.length : Int) then ((impl_itemText.f k (rd_T182 a0.f2 x21)).bind fun t31 => (if l19.length + t31.size ≤ 140737488355328 then (lets (l19 ++ bytesOf t31) fun y34 => (impl_itemText.l0 k y34 (wrap64 (x21 + 1)) a0)) else none)) else none) else none) else ((impl_lengthText.f k ((strOfNums l19).size : Int)).bind fun t11 => (if (strOfNums ([(a0.f0 % 256)] : List Int)).size + t11.size ≤ 9223372036854775807 then (if ((strOfNums ([(a0.f0 % 256)] : List Int)) ++ t11).size + (strOfNums l19).size ≤ 9223372036854775807 then (some (((strOfNums ([(a0.f0 % 256)] : List Int)) ++ t11) ++ (strOfNums l19))) else none) else none)))
def impl_itemText.f : Nat → S182 → Option (ByteArray)
  | 0, _ => none
  | k + 1, a0 => (if a0.f0 = 48 then (impl_itemText.l0 k [] 0 a0) else ((impl_lengthText.f k (a0.f1.size : Int)).bind fun t17 => (if (strOfNums ([(a0.f0 % 256)] : List Int)).size + t17.size ≤ 9223372036854775807 then (if ((strOfNums ([(a0.f0 % 256)] : List Int)) ++ t17).size + a0.f1.size ≤ 9223372036854775807 then (some (((strOfNums ([(a0.f0 % 256)] : List Int)) ++ t17) ++ a0.f1)) else none) else none)))
end
def impl_itemText.T10 : TT := (true, [([], []), ([0], [0]), ([1], [1]), ([2], [2]), ([3], [3]), ([], []), ([5], [5]), ([6], [6]), ([4, 7], [4, 7]), ([], []), ([8, 9], [8, 9]), ([10, 7, 0, 1, 2, 3, 4, 5, 6, 7, 8, 9, 10], [10])])
theorem impl_itemText.tT10 : rtab .any (opsOf Tryz.f200 10) = impl_itemText.T10 := by kernel_rfl
theorem impl_itemText.calls_ (K : Nat) : ∀ {k : Nat} (hK : k ≤ K) {a0 : S182} {Ap0 : Option Addr} {np0 cp0 : Nat} {r : ByteArray} {w : World} (h : impl_itemText.f k a0 = some r) (gp0 : k182.C w Ap0 np0 a0.f2) (lp0 : np0 ≤ cp0),
    Calls Tryz.prog 200 #[.agg #[.int .i64 a0.f0, .string a0.f1, .slice Ap0 np0 cp0]] w (fun e w' => e = .returned (.string r) ∧ Hp noFP w w' []) := by
  induction K with
  | zero =>
    intro k hK a0 Ap0 np0 cp0 r w h gp0 lp0
    obtain rfl : k = 0 := by omega
    exact absurd h (by simp [impl_itemText.f])
  | succ K IH =>
    intro k hK a0 Ap0 np0 cp0 r w h gp0 lp0
    cases k with
    | zero => exact absurd h (by simp [impl_itemText.f])
    | succ k =>
    have HK0 : Aside0 (k ≤ K) := ⟨by omega⟩
    clear hK
    obtain rfl := C_len gp0
    have HS := Hp.start w
    have H := Aside0.mk h
    clear h
    simp only [impl_itemText.f] at H
    go_enter Tryz.func200, Tryz.ntmps200
    go_upto_if 11 with ((with_reducible refine gd 1 rfl ?_); refine ev_bx HS ?_; clear HS; intro g1 w1 HS F)
    replace H := znif' H; rcases H with ⟨c3, H⟩ | ⟨c3, H⟩
    case inl =>
     have c3a := beq_eq_false_iff_ne.mpr c3
     have c3b := bne_iff_ne.mpr c3
     clear c3
     (try simp only [c3a, c3b, dcn])
     (try go_wp2)
     replace H := zbind H; obtain ⟨t17, ht17, H⟩ := H
     replace H := zgo H; obtain ⟨c22, H⟩ := H
     replace H := zgo H; obtain ⟨c27, H⟩ := H
     refine dr_start [] HS #[false, false, false, false, false, false, false, false, false, false, false, false] (by kernel_rfl) rfl rfl impl_itemText.tT10 (fun w40 HT HS HH => ?_)
     (try clear F)
     refine join_ 0 #[true, true, true, true, true, true, true, true, true, true, true, true] (fun (v16 : Value) => ([(26, .pointer (some ⟨g1, 0, none⟩)), (27, .int .i64 a0.f0), (28, .int .u8 (a0.f0 % 256)), (29, v16), (30, .string (strOfNums ([(a0.f0 % 256)] : List Int))), (31, .string a0.f1), (32, .int .i64 (a0.f1.size : Int)), (33, .string t17), (34, .string ((strOfNums ([(a0.f0 % 256)] : List Int)) ++ t17)), (35, .string a0.f1), (36, .string (((strOfNums ([(a0.f0 % 256)] : List Int)) ++ t17) ++ a0.f1)), (2, .string (((strOfNums ([(a0.f0 % 256)] : List Int)) ++ t17) ++ a0.f1))] : List (Tmp × Value))) (fun (v16 : Value) w' => Hp noFP w w' [.box g1 [.int .i64 a0.f0, .string a0.f1, .slice Ap0 a0.f2.length cp0] 182, .own (Zd.slice 5 (Zd.int .u8)) ([(a0.f0 % 256)] : List Int) [v16]]) ?_ ?_
     rotate_left
     · intro hJ
       refine drq_of [(0, some 26), (1, some 27), (2, some 28), (5, some 31), (6, some 32), (9, some 35)] ?_
       repeat (first | refine drp HT ?_ | refine drt HT HH ?_)
       refine drq_end ?_
       refine dr_any [3, 7] HT (by kernel_rfl) (by decide) (AllReadyL.cons rfl (by decide) (fun K hK => ?_) (AllReadyL.cons rfl (by decide) (fun K hK => ?_) AllReadyL.nil))
       · refine if_li (Zd.int .u8) [] ([(a0.f0 % 256)] : List Int) ([.int .u8 (a0.f0 % 256)] ++ []) HS (MadeL.cons (js1 := []) (c := [.int .u8 (a0.f0 % 256)]) rfl (made_flat (fun _ => rfl)) MadeL.nil (by decide)) ?_; clear HS; intro v16 w16 HS F; obtain ⟨B16, d16, rfl, m16⟩ := HS.formn 1 1 rfl rfl
         refine nrm 29 hK ⟨_, HS⟩ (fun HH => ?_); clear hK K
         refine dr_any [4, 7] HT (by kernel_rfl) (by decide) (AllReadyL.cons rfl (by decide) (fun K hK => ?_) (AllReadyL.cons rfl (by decide) (fun K hK => ?_) AllReadyL.nil))
         · refine if_wp (by rfl) ?_; refine wp_run (run_str rfl rfl Tryz.underlying225 Tryz.underlying5 Tryz.underlying9 (HS.rd 1 rfl)) ?_
           (try simp only [hpn, hpm] at HS)
           have F := HS.boxes; simp only [bxn] at F
           refine nrm 30 hK ⟨_, HS⟩ (fun HH => ?_); clear hK K
           refine dr1 7 HT fun K hK => ?_
           refine go_cl HS (impl_lengthText.calls ht17.out) Tryz.func228 ?_; clear HS; intro wt17 HS F
           refine nrm 33 hK ⟨_, HS⟩ (fun HH => ?_); clear hK K
           refine dr_pure 8 (some 34) HT (v := .string ((strOfNums ([(a0.f0 % 256)] : List Int)) ++ t17)) (a' := ?_) rfl rfl (by kernel_rfl) (fun _ _ _ h => h) (.inl ⟨by rfl, fun w' => (run_cat rfl rfl rfl (of_eq_true c22))⟩) ?_ ?_
           rotate_left
           · simp only [Act.put, ptn]; rfl
           refine dr_pure 10 (some 36) HT (v := .string (((strOfNums ([(a0.f0 % 256)] : List Int)) ++ t17) ++ a0.f1)) (a' := ?_) rfl rfl (by kernel_rfl) (fun _ _ _ h => h) (.inl ⟨by rfl, fun w' => (run_cat rfl rfl rfl (of_eq_true c27))⟩) ?_ ?_
           rotate_left
           · simp only [Act.put, ptn]; rfl
           refine drq_of [(11, some 2)] ?_
           repeat (refine drp HT ?_)
           refine drq_end ?_
           refine norm_ ?_ (hJ (.slice B16 1 d16) _ (HS.arr [some 0, some 1] (by decide)))
           simp only [putAll, Act.put, ptn]
           (try rfl)
         · refine go_cl HS (impl_lengthText.calls ht17.out) Tryz.func228 ?_; clear HS; intro wt17 HS F
           refine nrm 33 hK ⟨_, HS⟩ (fun HH => ?_); clear hK K
           refine dr1 4 HT fun K hK => ?_
           refine if_wp (by rfl) ?_; refine wp_run (run_str rfl rfl Tryz.underlying225 Tryz.underlying5 Tryz.underlying9 (HS.rd 1 rfl)) ?_
           (try simp only [hpn, hpm] at HS)
           have F := HS.boxes; simp only [bxn] at F
           refine nrm 30 hK ⟨_, HS⟩ (fun HH => ?_); clear hK K
           refine dr_pure 8 (some 34) HT (v := .string ((strOfNums ([(a0.f0 % 256)] : List Int)) ++ t17)) (a' := ?_) rfl rfl (by kernel_rfl) (fun _ _ _ h => h) (.inl ⟨by rfl, fun w' => (run_cat rfl rfl rfl (of_eq_true c22))⟩) ?_ ?_
           rotate_left
           · simp only [Act.put, ptn]; rfl
           refine dr_pure 10 (some 36) HT (v := .string (((strOfNums ([(a0.f0 % 256)] : List Int)) ++ t17) ++ a0.f1)) (a' := ?_) rfl rfl (by kernel_rfl) (fun _ _ _ h => h) (.inl ⟨by rfl, fun w' => (run_cat rfl rfl rfl (of_eq_true c27))⟩) ?_ ?_
           rotate_left
           · simp only [Act.put, ptn]; rfl
           refine drq_of [(11, some 2)] ?_
           repeat (refine drp HT ?_)
           refine drq_end ?_
           refine norm_ ?_ (hJ (.slice B16 1 d16) _ (HS.arr [some 0, some 1] (by decide)))
           simp only [putAll, Act.put, ptn]
           (try rfl)
       · refine go_cl HS (impl_lengthText.calls ht17.out) Tryz.func228 ?_; clear HS; intro wt17 HS F
         refine nrm 33 hK ⟨_, HS⟩ (fun HH => ?_); clear hK K
         refine dr1 3 HT fun K hK => ?_
         refine if_li (Zd.int .u8) [] ([(a0.f0 % 256)] : List Int) ([.int .u8 (a0.f0 % 256)] ++ []) HS (MadeL.cons (js1 := []) (c := [.int .u8 (a0.f0 % 256)]) rfl (made_flat (fun _ => rfl)) MadeL.nil (by decide)) ?_; clear HS; intro v16 w16 HS F; obtain ⟨B16, d16, rfl, m16⟩ := HS.formn 1 1 rfl rfl
         refine nrm 29 hK ⟨_, HS⟩ (fun HH => ?_); clear hK K
         refine dr1 4 HT fun K hK => ?_
         refine if_wp (by rfl) ?_; refine wp_run (run_str rfl rfl Tryz.underlying225 Tryz.underlying5 Tryz.underlying9 (HS.rd 1 rfl)) ?_
         (try simp only [hpn, hpm] at HS)
         have F := HS.boxes; simp only [bxn] at F
         refine nrm 30 hK ⟨_, HS⟩ (fun HH => ?_); clear hK K
         refine dr_pure 8 (some 34) HT (v := .string ((strOfNums ([(a0.f0 % 256)] : List Int)) ++ t17)) (a' := ?_) rfl rfl (by kernel_rfl) (fun _ _ _ h => h) (.inl ⟨by rfl, fun w' => (run_cat rfl rfl rfl (of_eq_true c22))⟩) ?_ ?_
         rotate_left
         · simp only [Act.put, ptn]; rfl
         refine dr_pure 10 (some 36) HT (v := .string (((strOfNums ([(a0.f0 % 256)] : List Int)) ++ t17) ++ a0.f1)) (a' := ?_) rfl rfl (by kernel_rfl) (fun _ _ _ h => h) (.inl ⟨by rfl, fun w' => (run_cat rfl rfl rfl (of_eq_true c27))⟩) ?_ ?_
         rotate_left
         · simp only [Act.put, ptn]; rfl
         refine drq_of [(11, some 2)] ?_
         repeat (refine drp HT ?_)
         refine drq_end ?_
         refine norm_ ?_ (hJ (.slice B16 1 d16) _ (HS.arr [some 0, some 1] (by decide)))
         simp only [putAll, Act.put, ptn]
         (try rfl)
     rintro v16 w28 HS
     obtain ⟨B16, d16, rfl, m16⟩ := HS.formn 1 1 rfl (by first | rfl | simp)
     have F := HS.boxes; simp only [bxn] at F
     refine norm_ (a' := ?_) ?_ ?_
     rotate_left
     · simp only [putAll, Act.put, ptn]; rfl
     refine done_ (done_of HT.out (by kernel_rfl)) ?_
     obtain rfl := zsome H
     go_wp2
     go_ret
     exact HS.pk
    have c3a := beq_iff_eq.mpr c3
    have c3b := bne_eq_false_iff_eq.mpr c3
    clear c3
    (try simp only [c3a, c3b, dcn])
    go_wp2
    replace HS := HS.nil 5 (Zd.int .u8)
    go_loopg [4, 15] k (fun kq v_4 v_15 w' => ∃ (l19 : List Int) (v20 : Value) (x21 : Int), v_4 = v20 ∧ v_15 = .int .i64 x21 ∧ Aside0 (impl_itemText.l0 kq l19 x21 a0 = some r) ∧ Aside0 (kq ≤ k) ∧ Hp noFP w w' [.box g1 [.int .i64 a0.f0, .string a0.f1, .slice Ap0 a0.f2.length cp0] 182, .own (Zd.slice 5 (Zd.int .u8)) l19 [v20]])
    case atStart => exact ⟨_, _, _, rfl, rfl, H, ⟨Nat.le_refl _⟩, HS⟩
    case round =>
     clear HS H; (try clear F)
     obtain ⟨l19, v20, x21, rfl, rfl, H, HKk18, HS⟩ := hrel
     obtain ⟨B20, d20, rfl, m20⟩ := HS.form 1 rfl
     have F := HS.boxes; simp only [bxn] at F
     cases gk with
     | zero => exact absurd H.out (by simp [impl_itemText.l0])
     | succ k18 =>
      simp only [impl_itemText.l0] at H
      replace H := zif H; rcases H with ⟨c23, H⟩ | ⟨c23, H⟩
      case inl =>
       replace H := zgo H; obtain ⟨c24, H⟩ := H
       replace H := zgo H; obtain ⟨c25, H⟩ := H
       obtain ⟨ad26, B26_2, d26_2, rfl, e26_0, e26_1, e26_2, m26_2, y26_2⟩ := at_T182 gp0 x21 (of_eq_true c24) (of_eq_true c25)
       have e26_0_26 := HS.keepc e26_0
       have e26_1_26 := HS.keepc e26_1
       have e26_2_26 := HS.keepc e26_2
       replace H := zbind H; obtain ⟨t31, ht31, H⟩ := H
       replace H := zgo H; obtain ⟨c33, H⟩ := H
       replace H := zlets H; obtain ⟨y34, e_y34, H⟩ := H
       go_wp2_with (first | ((with_reducible refine gd 6 rfl ?_); refine ev_bx HS ?_; clear HS; intro g6 w6 HS F) | ((with_reducible refine gate_store (p := 6) rfl ?_); refine ev_st 2 0 HS (seg := [.int .i64 ((rd_T182 a0.f2 x21).f0), .string ((rd_T182 a0.f2 x21).f1), .slice B26_2 (rd_T182 a0.f2 x21).f2.length d26_2]) ?_; clear HS; intro w29 HS F) | ((with_reducible refine gd 21 rfl ?_); refine ev_cl HS (IH (by have := HK0.out; have := HKk18.out; omega) ht31.out (HS.ro y26_2) m26_2) Tryz.func200 ?_; clear HS; intro wt31 HS F) | ((with_reducible refine gd 22 rfl ?_); refine ev_appends rfl 1 HS rfl rfl rfl rfl Tryz.underlying225 Tryz.underlying9 info5 (by have := of_eq_true c33; first | omega | (simp only [List.length_cons, List.length_nil, List.length_append, Nat.zero_add] at this ⊢; omega)) ?_; clear HS; intro v34 w34 HS; rw [← e_y34.out] at HS; obtain ⟨B34, d34, rfl, m34⟩ := HS.form 3 rfl; (try simp only [hpn, hpm] at HS); have F := HS.boxes; simp only [bxn] at F))
       go_roundg k18
       case measure => have := HK0.out; have := HKk18.out; omega
       case rel => exact ⟨_, _, _, rfl, rfl, H, ⟨by have := HK0.out; have := HKk18.out; omega⟩, HS.pick [0, 3] (by decide) (by rfl)⟩
      go_wp2_with ((with_reducible refine gd 25 rfl ?_); refine ev_val rfl (run_str rfl rfl Tryz.underlying225 Tryz.underlying5 Tryz.underlying9 (HS.rd 1 rfl)) ?_)
      replace H := zbind H; obtain ⟨t11, ht11, H⟩ := H
      replace H := zgo H; obtain ⟨c12, H⟩ := H
      replace H := zgo H; obtain ⟨c13, H⟩ := H
      refine dr_start [] HS #[false, false, false, false, false, false, false, false, false, false, false, false] (by kernel_rfl) rfl rfl impl_itemText.tT10 (fun w37 HT HS HH => ?_)
      (try clear F)
      refine join_ 0 #[true, true, true, true, true, true, true, true, true, true, true, true] (fun (v7 : Value) => ([(26, .pointer (some ⟨g1, 0, none⟩)), (27, .int .i64 a0.f0), (28, .int .u8 (a0.f0 % 256)), (29, v7), (30, .string (strOfNums ([(a0.f0 % 256)] : List Int))), (31, .string (strOfNums l19)), (32, .int .i64 ((strOfNums l19).size : Int)), (33, .string t11), (34, .string ((strOfNums ([(a0.f0 % 256)] : List Int)) ++ t11)), (35, .string (strOfNums l19)), (36, .string (((strOfNums ([(a0.f0 % 256)] : List Int)) ++ t11) ++ (strOfNums l19))), (2, .string (((strOfNums ([(a0.f0 % 256)] : List Int)) ++ t11) ++ (strOfNums l19)))] : List (Tmp × Value))) (fun (v7 : Value) w' => Hp noFP w w' [.box g1 [.int .i64 a0.f0, .string a0.f1, .slice Ap0 a0.f2.length cp0] 182, .own (Zd.slice 5 (Zd.int .u8)) l19 [.slice B20 l19.length d20], .own (Zd.slice 5 (Zd.int .u8)) ([(a0.f0 % 256)] : List Int) [v7]]) ?_ ?_
      rotate_left
      · intro hJ
        refine drq_of [(0, some 26), (1, some 27), (2, some 28), (5, some 31), (6, some 32), (9, some 35)] ?_
        repeat (first | refine drp HT ?_ | refine drt HT HH ?_)
        refine drq_end ?_
        refine dr_any [3, 7] HT (by kernel_rfl) (by decide) (AllReadyL.cons rfl (by decide) (fun K hK => ?_) (AllReadyL.cons rfl (by decide) (fun K hK => ?_) AllReadyL.nil))
        · refine if_li (Zd.int .u8) [] ([(a0.f0 % 256)] : List Int) ([.int .u8 (a0.f0 % 256)] ++ []) HS (MadeL.cons (js1 := []) (c := [.int .u8 (a0.f0 % 256)]) rfl (made_flat (fun _ => rfl)) MadeL.nil (by decide)) ?_; clear HS; intro v7 w7 HS F; obtain ⟨B7, d7, rfl, m7⟩ := HS.formn 1 2 rfl rfl
          refine nrm 29 hK ⟨_, HS⟩ (fun HH => ?_); clear hK K
          refine dr_any [4, 7] HT (by kernel_rfl) (by decide) (AllReadyL.cons rfl (by decide) (fun K hK => ?_) (AllReadyL.cons rfl (by decide) (fun K hK => ?_) AllReadyL.nil))
          · refine if_wp (by rfl) ?_; refine wp_run (run_str rfl rfl Tryz.underlying225 Tryz.underlying5 Tryz.underlying9 (HS.rd 2 rfl)) ?_
            (try simp only [hpn, hpm] at HS)
            have F := HS.boxes; simp only [bxn] at F
            refine nrm 30 hK ⟨_, HS⟩ (fun HH => ?_); clear hK K
            refine dr1 7 HT fun K hK => ?_
            refine go_cl HS (impl_lengthText.calls ht11.out) Tryz.func228 ?_; clear HS; intro wt11 HS F
            refine nrm 33 hK ⟨_, HS⟩ (fun HH => ?_); clear hK K
            refine dr_pure 8 (some 34) HT (v := .string ((strOfNums ([(a0.f0 % 256)] : List Int)) ++ t11)) (a' := ?_) rfl rfl (by kernel_rfl) (fun _ _ _ h => h) (.inl ⟨by rfl, fun w' => (run_cat rfl rfl rfl (of_eq_true c12))⟩) ?_ ?_
            rotate_left
            · simp only [Act.put, ptn]; rfl
            refine dr_pure 10 (some 36) HT (v := .string (((strOfNums ([(a0.f0 % 256)] : List Int)) ++ t11) ++ (strOfNums l19))) (a' := ?_) rfl rfl (by kernel_rfl) (fun _ _ _ h => h) (.inl ⟨by rfl, fun w' => (run_cat rfl rfl rfl (of_eq_true c13))⟩) ?_ ?_
            rotate_left
            · simp only [Act.put, ptn]; rfl
            refine drq_of [(11, some 2)] ?_
            repeat (refine drp HT ?_)
            refine drq_end ?_
            refine norm_ ?_ (hJ (.slice B7 1 d7) _ (HS.arr [some 0, some 1, some 2] (by decide)))
            simp only [putAll, Act.put, ptn]
            (try rfl)
          · refine go_cl HS (impl_lengthText.calls ht11.out) Tryz.func228 ?_; clear HS; intro wt11 HS F
            refine nrm 33 hK ⟨_, HS⟩ (fun HH => ?_); clear hK K
            refine dr1 4 HT fun K hK => ?_
            refine if_wp (by rfl) ?_; refine wp_run (run_str rfl rfl Tryz.underlying225 Tryz.underlying5 Tryz.underlying9 (HS.rd 2 rfl)) ?_
            (try simp only [hpn, hpm] at HS)
            have F := HS.boxes; simp only [bxn] at F
            refine nrm 30 hK ⟨_, HS⟩ (fun HH => ?_); clear hK K
            refine dr_pure 8 (some 34) HT (v := .string ((strOfNums ([(a0.f0 % 256)] : List Int)) ++ t11)) (a' := ?_) rfl rfl (by kernel_rfl) (fun _ _ _ h => h) (.inl ⟨by rfl, fun w' => (run_cat rfl rfl rfl (of_eq_true c12))⟩) ?_ ?_
            rotate_left
            · simp only [Act.put, ptn]; rfl
            refine dr_pure 10 (some 36) HT (v := .string (((strOfNums ([(a0.f0 % 256)] : List Int)) ++ t11) ++ (strOfNums l19))) (a' := ?_) rfl rfl (by kernel_rfl) (fun _ _ _ h => h) (.inl ⟨by rfl, fun w' => (run_cat rfl rfl rfl (of_eq_true c13))⟩) ?_ ?_
            rotate_left
            · simp only [Act.put, ptn]; rfl
            refine drq_of [(11, some 2)] ?_
            repeat (refine drp HT ?_)
            refine drq_end ?_
            refine norm_ ?_ (hJ (.slice B7 1 d7) _ (HS.arr [some 0, some 1, some 2] (by decide)))
            simp only [putAll, Act.put, ptn]
            (try rfl)
        · refine go_cl HS (impl_lengthText.calls ht11.out) Tryz.func228 ?_; clear HS; intro wt11 HS F
          refine nrm 33 hK ⟨_, HS⟩ (fun HH => ?_); clear hK K
          refine dr1 3 HT fun K hK => ?_
          refine if_li (Zd.int .u8) [] ([(a0.f0 % 256)] : List Int) ([.int .u8 (a0.f0 % 256)] ++ []) HS (MadeL.cons (js1 := []) (c := [.int .u8 (a0.f0 % 256)]) rfl (made_flat (fun _ => rfl)) MadeL.nil (by decide)) ?_; clear HS; intro v7 w7 HS F; obtain ⟨B7, d7, rfl, m7⟩ := HS.formn 1 2 rfl rfl
          refine nrm 29 hK ⟨_, HS⟩ (fun HH => ?_); clear hK K
          refine dr1 4 HT fun K hK => ?_
          refine if_wp (by rfl) ?_; refine wp_run (run_str rfl rfl Tryz.underlying225 Tryz.underlying5 Tryz.underlying9 (HS.rd 2 rfl)) ?_
          (try simp only [hpn, hpm] at HS)
          have F := HS.boxes; simp only [bxn] at F
          refine nrm 30 hK ⟨_, HS⟩ (fun HH => ?_); clear hK K
          refine dr_pure 8 (some 34) HT (v := .string ((strOfNums ([(a0.f0 % 256)] : List Int)) ++ t11)) (a' := ?_) rfl rfl (by kernel_rfl) (fun _ _ _ h => h) (.inl ⟨by rfl, fun w' => (run_cat rfl rfl rfl (of_eq_true c12))⟩) ?_ ?_
          rotate_left
          · simp only [Act.put, ptn]; rfl
          refine dr_pure 10 (some 36) HT (v := .string (((strOfNums ([(a0.f0 % 256)] : List Int)) ++ t11) ++ (strOfNums l19))) (a' := ?_) rfl rfl (by kernel_rfl) (fun _ _ _ h => h) (.inl ⟨by rfl, fun w' => (run_cat rfl rfl rfl (of_eq_true c13))⟩) ?_ ?_
          rotate_left
          · simp only [Act.put, ptn]; rfl
          refine drq_of [(11, some 2)] ?_
          repeat (refine drp HT ?_)
          refine drq_end ?_
          refine norm_ ?_ (hJ (.slice B7 1 d7) _ (HS.arr [some 0, some 1, some 2] (by decide)))
          simp only [putAll, Act.put, ptn]
          (try rfl)
      rintro v7 w14 HS
      obtain ⟨B7, d7, rfl, m7⟩ := HS.formn 1 2 rfl (by first | rfl | simp)
      have F := HS.boxes; simp only [bxn] at F
      refine norm_ (a' := ?_) ?_ ?_
      rotate_left
      · simp only [putAll, Act.put, ptn]; rfl
      refine done_ (done_of HT.out (by kernel_rfl)) ?_
      obtain rfl := zsome H
      go_wp2
      go_ret
      exact HS.pk
theorem impl_itemText.calls {k : Nat} {a0 : S182} {Ap0 : Option Addr} {np0 cp0 : Nat} {r : ByteArray} {w : World} (h : impl_itemText.f k a0 = some r) (gp0 : k182.C w Ap0 np0 a0.f2) (lp0 : np0 ≤ cp0) :
    Calls Tryz.prog 200 #[.agg #[.int .i64 a0.f0, .string a0.f1, .slice Ap0 np0 cp0]] w (fun e w' => e = .returned (.string r) ∧ Hp noFP w w' []) := impl_itemText.calls_ k (Nat.le_refl k) h gp0 lp0
def impl_ItemText.f (k : Nat) (a0 : S182) : Option (ByteArray × Bool) := ((impl_ItemOk.f k a0).bind fun t3 => (if t3 = true then ((impl_itemText.f k a0).bind fun t6 => (if 4000 < (t6.size : Int) then (some ((⟨#[]⟩ : ByteArray), false)) else (some (t6, true)))) else (some ((⟨#[]⟩ : ByteArray), false))))
theorem impl_ItemText.calls {k : Nat} {a0 : S182} {Ap0 : Option Addr} {np0 cp0 : Nat} {r1 : ByteArray} {r2 : Bool} {w : World} (h : impl_ItemText.f k a0 = some (r1, r2)) (gp0 : k182.C w Ap0 np0 a0.f2) (lp0 : np0 ≤ cp0) :
    Calls Tryz.prog 144 #[.agg #[.int .i64 a0.f0, .string a0.f1, .slice Ap0 np0 cp0]] w (fun e w' => e = .returned (.tuple #[.string r1, .bool r2]) ∧ Hp noFP w w' []) := by
 obtain rfl := C_len gp0
 have HS := Hp.start w
 have H := Aside0.mk h
 clear h
 unfold impl_ItemText.f at H
 go_enter Tryz.func144, Tryz.ntmps144
 replace H := zbind H; obtain ⟨t3, ht3, H⟩ := H
 go_upto_if 7 with (first | ((with_reducible refine gd 1 rfl ?_); refine ev_bx HS ?_; clear HS; intro g1 w1 HS F) | ((with_reducible refine gd 6 rfl ?_); refine ev_cl HS (impl_ItemOk.calls ht3.out (HS.ro gp0) lp0) Tryz.func199 ?_; clear HS; intro wt3 HS F))
 replace H := znifb H; rcases H with ⟨c5, H⟩ | ⟨c5, H⟩
 case inl =>
  subst c5
  (try simp only [dcn, dcu, dcf])
  obtain ⟨rfl, rfl⟩ := zsome2 H
  go_wp2
  exact bodyPost_ret (results_list (rs := [.tmp 2, .tmp 3]) rfl (by simp) (.tmp (.tmp .nil))) rfl ⟨rfl, HS.pick [] (by decide) (by rfl)⟩
 subst c5
 (try simp only [dcn, dcu, dcf])
 replace H := zbind H; obtain ⟨t6, ht6, H⟩ := H
 go_upto_if 12 with ((with_reducible refine gd 9 rfl ?_); refine ev_cl HS (impl_itemText.calls ht6.out (HS.ro gp0) lp0) Tryz.func200 ?_; clear HS; intro wt6 HS F)
 replace H := zif H; rcases H with ⟨c8, H⟩ | ⟨c8, H⟩
 case inl =>
  (try simp only [c8, dcn])
  obtain ⟨rfl, rfl⟩ := zsome2 H
  go_wp2
  exact bodyPost_ret (results_list (rs := [.tmp 2, .tmp 3]) rfl (by simp) (.tmp (.tmp .nil))) rfl ⟨rfl, HS.pick [] (by decide) (by rfl)⟩
 (try simp only [c8, dcn])
 obtain ⟨rfl, rfl⟩ := zsome2 H
 go_wp2
 exact bodyPost_ret (results_list (rs := [.tmp 2, .tmp 3]) rfl (by simp) (.tmp (.tmp .nil))) rfl ⟨rfl, HS.pick [] (by decide) (by rfl)⟩
mutual
def impl_copyItem.l0 : Nat → (List S182) → Int → S182 → Option (S182)
  | 0, _, _, _ => none
  | k + 1, l28, x30, a0 => (if x30 < (a0.f2.length : Int) then (if 0 ≤ x30 then (if x30 < (a0.f2.length : Int) then ((impl_copyItem.f k (rd_T182 a0.f2 x30)).bind fun t4 => (if l28.length + 1 ≤ 2932031007402 then (lets (l28 ++ ([t4] : List S182)) fun y10 => (impl_copyItem.l0 k y10 (wrap64 (x30 + 1)) a0)) else none)) else none) else none) else (some (⟨a0.f0, a0.f1, l28⟩ : S182)))
def impl_copyItem.f : Nat → S182 → Option (S182)
  | 0, _ => none
  | k + 1, a0 => (impl_copyItem.l0 k [] 0 a0)
end
def impl_copyItem.T5 : TT := (true, [([], []), ([0], [0]), ([], []), ([2], [2]), ([3], [3]), ([1, 4, 3], [1, 4]), ([0, 1, 2, 3, 4, 5], []), ([6, 5, 5, 0, 1, 2, 3, 4, 5], [5, 6])])
theorem impl_copyItem.tT5 : rtab .any (opsOf Tryz.f201 5) = impl_copyItem.T5 := by kernel_rfl
theorem impl_copyItem.calls_ (K : Nat) : ∀ {k : Nat} (hK : k ≤ K) {a0 : S182} {Ap0 : Option Addr} {np0 cp0 : Nat} {r : S182} {w : World} (h : impl_copyItem.f k a0 = some r) (gp0 : k182.C w Ap0 np0 a0.f2) (lp0 : np0 ≤ cp0),
    Calls Tryz.prog 201 #[.agg #[.int .i64 a0.f0, .string a0.f1, .slice Ap0 np0 cp0]] w (fun e w' => ∃ v0_ : Value, e = .returned (.agg #[.int .i64 r.f0, .string r.f1, v0_]) ∧ Hp noFP w w' [.own (Zd.slice 182 q182) r.f2 [v0_]]) := by
  induction K with
  | zero =>
    intro k hK a0 Ap0 np0 cp0 r w h gp0 lp0
    obtain rfl : k = 0 := by omega
    exact absurd h (by simp [impl_copyItem.f])
  | succ K IH =>
    intro k hK a0 Ap0 np0 cp0 r w h gp0 lp0
    cases k with
    | zero => exact absurd h (by simp [impl_copyItem.f])
    | succ k =>
    have HK0 : Aside0 (k ≤ K) := ⟨by omega⟩
    clear hK
    obtain rfl := C_len gp0
    have HS := Hp.start w
    have H := Aside0.mk h
    clear h
    simp only [impl_copyItem.f] at H
    go_enter Tryz.func201, Tryz.ntmps201
    go_wp2_with (first | ((with_reducible refine gd 1 rfl ?_); refine ev_bx HS ?_; clear HS; intro g1 w1 HS F) | ((with_reducible refine gd 2 rfl ?_); refine ev_bx HS ?_; clear HS; intro g2 w2 HS F) | ((with_reducible refine gd 3 rfl ?_); refine ev_bx HS ?_; clear HS; intro g3 w3 HS F) | ((with_reducible refine gate_store (p := 3) rfl ?_); refine ev_st 2 0 HS (seg := [.int .i64 a0.f0, .string a0.f1, .slice none 0 0]) ?_; clear HS; intro w7 HS F))
    replace HS := HS.nil 182 q182
    go_loopg [14] k (fun kq v_14 w' => ∃ (l28 : List S182) (v29 : Value) (x30 : Int), v_14 = .int .i64 x30 ∧ Aside0 (impl_copyItem.l0 kq l28 x30 a0 = some r) ∧ Aside0 (kq ≤ k) ∧ Hp noFP w w' [.box g1 [.int .i64 a0.f0, .string a0.f1, .slice Ap0 a0.f2.length cp0] 182, .box g2 [.int .i64 0, .string (⟨#[]⟩ : ByteArray), .slice none 0 0] 182, .box g3 [.int .i64 a0.f0, .string a0.f1, v29] 182, .own (Zd.slice 182 q182) l28 [v29]])
    case atStart => exact ⟨_, _, _, rfl, H, ⟨Nat.le_refl _⟩, HS⟩
    case round =>
     clear HS H; (try clear F)
     obtain ⟨l28, v29, x30, rfl, H, HKk27, HS⟩ := hrel
     obtain ⟨B29, d29, rfl, m29⟩ := HS.form 3 rfl
     have F := HS.boxes; simp only [bxn] at F
     cases gk with
     | zero => exact absurd H.out (by simp [impl_copyItem.l0])
     | succ k27 =>
      simp only [impl_copyItem.l0] at H
      replace H := znif H; rcases H with ⟨c32, H⟩ | ⟨c32, H⟩
      case inl =>
       obtain rfl := zsome H
       go_wp2_with ((with_reducible refine gate_store (p := 2) rfl ?_); refine ev_st 1 0 HS (seg := [.int .i64 a0.f0, .string a0.f1, .slice B29 l28.length d29]) ?_; clear HS; intro w43 HS F)
       exact bodyPost_ret (results_single rfl (.cell _ _ _ _ _ rfl (HS.boxAt (i := 1) rfl) Tryz.underlying182 rfl (by kernel_rfl) .nil)) rfl ⟨_, rfl, HS.pick [3] (by decide) (by rfl)⟩
      replace H := zgo H; obtain ⟨c33, H⟩ := H
      replace H := zgo H; obtain ⟨c34, H⟩ := H
      obtain ⟨ad35, B35_2, d35_2, rfl, e35_0, e35_1, e35_2, m35_2, y35_2⟩ := at_T182 gp0 x30 (of_eq_true c33) (of_eq_true c34)
      have e35_0_35 := HS.keepc e35_0
      have e35_1_35 := HS.keepc e35_1
      have e35_2_35 := HS.keepc e35_2
      go_wp2_with (first | ((with_reducible refine gd 5 rfl ?_); refine ev_bx HS ?_; clear HS; intro g5 w5 HS F) | ((with_reducible refine gate_store (p := 5) rfl ?_); refine ev_st 4 0 HS (seg := [.int .i64 ((rd_T182 a0.f2 x30).f0), .string ((rd_T182 a0.f2 x30).f1), .slice B35_2 (rd_T182 a0.f2 x30).f2.length d35_2]) ?_; clear HS; intro w38 HS F))
      replace H := zbind H; obtain ⟨t4, ht4, H⟩ := H
      replace H := zgo H; obtain ⟨c9, H⟩ := H
      replace H := zlets H; obtain ⟨y10, e_y10, H⟩ := H
      refine dr_start2 [.box g1 [.int .i64 a0.f0, .string a0.f1, .slice (some ad35) a0.f2.length cp0] 182, .box g2 [.int .i64 0, .string (⟨#[]⟩ : ByteArray), .slice none 0 0] 182, .box g3 [.int .i64 a0.f0, .string a0.f1, .slice B29 l28.length d29] 182, .emp, .box g5 [.int .i64 ((rd_T182 a0.f2 x30).f0), .string ((rd_T182 a0.f2 x30).f1), .slice B35_2 (rd_T182 a0.f2 x30).f2.length d35_2] 182] [7] HS (HS.arr [some 0, some 1, some 2, none, some 4] (by decide)) #[false, false, false, false, false, false, false, false] (by kernel_rfl) rfl rfl impl_copyItem.tT5 (fun w41 HT HS HH => ?_)
      (try clear F)
      refine drq_of [(0, some 18), (1, some 19), (2, some 20)] ?_
      repeat (first | refine drp HT ?_ | refine drt HT HH ?_)
      refine drq_end ?_
      refine dr1 3 HT fun K hK => ?_
      refine go_cl1 HS (IH (by have := HK0.out; have := HKk27.out; omega) ht4.out (HS.ro y35_2) m35_2) Tryz.func201 ?_; clear HS; intro v6 wt4 HS F; obtain ⟨B6, d6, rfl, m6⟩ := HS.form 5 rfl
      refine hK.out _ _ ⟨[], HS.arr [some 0, some 1, some 2, none, some 4] (by decide)⟩ (fun HH => ?_)
      clear hK K
      refine norm_ (a' := ?_) ?_ ?_
      rotate_left
      · show Act.put _ (some 21) _ = _; simp only [Act.put, ptn]; rfl
      refine dr1 4 HT fun K hK => ?_
      refine if_li q182 [5] ([t4] : List S182) ([.int .i64 t4.f0, .string t4.f1, .slice B6 t4.f2.length d6] ++ []) HS (MadeL.cons (js1 := [5]) (c := [.int .i64 t4.f0, .string t4.f1, .slice B6 t4.f2.length d6]) rfl (fun S hd hh => q182_pack (x := t4) hd (hh 5 (.own (Zd.slice 182 q182) t4.f2 [.slice B6 t4.f2.length d6]) rfl) (by decide)) MadeL.nil (by decide)) ?_; clear HS; intro v8 w8 HS F; obtain ⟨B8, d8, rfl, m8⟩ := HS.formn 1 6 rfl rfl
      refine hK.out _ _ ⟨[], HS.arr [some 0, some 1, some 2, none, some 4] (by decide)⟩ (fun HH => ?_)
      clear hK K
      refine norm_ (a' := ?_) ?_ ?_
      rotate_left
      · show Act.put _ (some 22) _ = _; simp only [Act.put, ptn]; rfl
      refine dr1 5 HT fun K hK => ?_
      refine wp_ap q182 3 6 HS rfl rfl Tryz.underlying180 info182 (of_eq_true c9) ?_; clear HS; intro v10 w10 HS; rw [← e_y10.out] at HS; obtain ⟨B10, d10, rfl, m10⟩ := HS.form 7 rfl
      (try simp only [hpn, hpm] at HS)
      have F := HS.boxes; simp only [bxn] at F
      refine hK.out _ _ ⟨[], HS.arr [some 0, some 1, some 2, none, some 4] (by decide)⟩ (fun HH => ?_)
      clear hK K
      refine norm_ (a' := ?_) ?_ ?_
      rotate_left
      · show Act.put _ (some 23) _ = _; simp only [Act.put, ptn]; rfl
      refine drq_of [(6, some 24)] ?_
      repeat (refine drp HT ?_)
      refine drq_end ?_
      refine dr_last 7 HT rfl (by kernel_rfl) (by decide) (fun K hK => ?_)
      refine if_st 2 2 HS (seg := [.slice B10 y10.length d10]) ?_; clear HS; intro w11 HS F
      refine hK.out _ _ ?_
      clear hK K
      refine done_ (done_of HT.out (by kernel_rfl)) ?_
      (try clear F)
      have F := HS.boxes; simp only [bxn] at F
      go_wp2
      go_roundg k27
      case measure => have := HK0.out; have := HKk27.out; omega
      case rel => exact ⟨_, _, _, rfl, H, ⟨by have := HK0.out; have := HKk27.out; omega⟩, HS.pick [0, 1, 2, 7] (by decide) (by rfl)⟩
theorem impl_copyItem.calls {k : Nat} {a0 : S182} {Ap0 : Option Addr} {np0 cp0 : Nat} {r : S182} {w : World} (h : impl_copyItem.f k a0 = some r) (gp0 : k182.C w Ap0 np0 a0.f2) (lp0 : np0 ≤ cp0) :
    Calls Tryz.prog 201 #[.agg #[.int .i64 a0.f0, .string a0.f1, .slice Ap0 np0 cp0]] w (fun e w' => ∃ v0_ : Value, e = .returned (.agg #[.int .i64 r.f0, .string r.f1, v0_]) ∧ Hp noFP w w' [.own (Zd.slice 182 q182) r.f2 [v0_]]) := impl_copyItem.calls_ k (Nat.le_refl k) h gp0 lp0
def impl_ListItem.l0 : Nat → (List S182) → Int → (List S182) → Option (S182)
  | 0, _, _, _ => none
  | k + 1, l26, x28, a0 => (if x28 < (a0.length : Int) then (if 0 ≤ x28 then (if x28 < (a0.length : Int) then ((impl_copyItem.f k (rd_T182 a0 x28)).bind fun t4 => (if l26.length + 1 ≤ 2932031007402 then (lets (l26 ++ ([t4] : List S182)) fun y10 => (impl_ListItem.l0 k y10 (wrap64 (x28 + 1)) a0)) else none)) else none) else none) else (some (⟨48, (⟨#[]⟩ : ByteArray), l26⟩ : S182)))
def impl_ListItem.f (k : Nat) (a0 : (List S182)) : Option (S182) := (impl_ListItem.l0 k [] 0 a0)
def impl_ListItem.T5 : TT := (true, [([], []), ([0], [0]), ([], []), ([2], [2]), ([3], [3]), ([1, 4, 3], [1, 4]), ([0, 1, 2, 3, 4, 5], []), ([6, 5, 5, 0, 1, 2, 3, 4, 5], [5, 6])])
theorem impl_ListItem.tT5 : rtab .any (opsOf Tryz.f145 5) = impl_ListItem.T5 := by kernel_rfl
theorem impl_ListItem.calls {k : Nat} {a0 : (List S182)} {Ap0 : Option Addr} {np0 cp0 : Nat} {r : S182} {w : World} (h : impl_ListItem.f k a0 = some r) (gp0 : k182.C w Ap0 np0 a0) (lp0 : np0 ≤ cp0) :
    Calls Tryz.prog 145 #[.slice Ap0 np0 cp0] w (fun e w' => ∃ v0_ : Value, e = .returned (.agg #[.int .i64 r.f0, .string r.f1, v0_]) ∧ Hp noFP w w' [.own (Zd.slice 182 q182) r.f2 [v0_]]) := by
 obtain rfl := C_len gp0
 have HS := Hp.start w
 have H := Aside0.mk h
 clear h
 unfold impl_ListItem.f at H
 go_enter Tryz.func145, Tryz.ntmps145
 go_wp2_with (first | ((with_reducible refine gd 2 rfl ?_); refine ev_bx HS ?_; clear HS; intro g2 w2 HS F) | ((with_reducible refine gd 3 rfl ?_); refine ev_bx HS ?_; clear HS; intro g3 w3 HS F) | ((with_reducible refine gate_store (p := 3) rfl ?_); refine ev_st 1 0 HS (seg := [.int .i64 48, .string (⟨#[]⟩ : ByteArray), .slice none 0 0]) ?_; clear HS; intro w5 HS F))
 replace HS := HS.nil 182 q182
 go_loopg [9] k (fun kq v_9 w' => ∃ (l26 : List S182) (v27 : Value) (x28 : Int), v_9 = .int .i64 x28 ∧ Aside0 (impl_ListItem.l0 kq l26 x28 a0 = some r) ∧ Aside0 (kq ≤ k) ∧ Hp noFP w w' [.box g2 [.int .i64 0, .string (⟨#[]⟩ : ByteArray), .slice none 0 0] 182, .box g3 [.int .i64 48, .string (⟨#[]⟩ : ByteArray), v27] 182, .own (Zd.slice 182 q182) l26 [v27]])
 case atStart => exact ⟨_, _, _, rfl, H, ⟨Nat.le_refl _⟩, HS⟩
 case round =>
  clear HS H; (try clear F)
  obtain ⟨l26, v27, x28, rfl, H, HKk25, HS⟩ := hrel
  obtain ⟨B27, d27, rfl, m27⟩ := HS.form 2 rfl
  have F := HS.boxes; simp only [bxn] at F
  cases gk with
  | zero => exact absurd H.out (by simp [impl_ListItem.l0])
  | succ k25 =>
   simp only [impl_ListItem.l0] at H
   replace H := znif H; rcases H with ⟨c30, H⟩ | ⟨c30, H⟩
   case inl =>
    obtain rfl := zsome H
    go_wp2_with ((with_reducible refine gate_store (p := 2) rfl ?_); refine ev_st 0 0 HS (seg := [.int .i64 48, .string (⟨#[]⟩ : ByteArray), .slice B27 l26.length d27]) ?_; clear HS; intro w41 HS F)
    exact bodyPost_ret (results_single rfl (.cell _ _ _ _ _ rfl (HS.boxAt (i := 0) rfl) Tryz.underlying182 rfl (by kernel_rfl) .nil)) rfl ⟨_, rfl, HS.pick [2] (by decide) (by rfl)⟩
   replace H := zgo H; obtain ⟨c31, H⟩ := H
   replace H := zgo H; obtain ⟨c32, H⟩ := H
   obtain ⟨ad33, B33_2, d33_2, rfl, e33_0, e33_1, e33_2, m33_2, y33_2⟩ := at_T182 gp0 x28 (of_eq_true c31) (of_eq_true c32)
   have e33_0_33 := HS.keepc e33_0
   have e33_1_33 := HS.keepc e33_1
   have e33_2_33 := HS.keepc e33_2
   go_wp2_with (first | ((with_reducible refine gd 5 rfl ?_); refine ev_bx HS ?_; clear HS; intro g5 w5 HS F) | ((with_reducible refine gate_store (p := 5) rfl ?_); refine ev_st 3 0 HS (seg := [.int .i64 ((rd_T182 a0 x28).f0), .string ((rd_T182 a0 x28).f1), .slice B33_2 (rd_T182 a0 x28).f2.length d33_2]) ?_; clear HS; intro w36 HS F))
   replace H := zbind H; obtain ⟨t4, ht4, H⟩ := H
   replace H := zgo H; obtain ⟨c8, H⟩ := H
   replace H := zlets H; obtain ⟨y10, e_y10, H⟩ := H
   refine dr_start2 [.box g2 [.int .i64 0, .string (⟨#[]⟩ : ByteArray), .slice none 0 0] 182, .box g3 [.int .i64 48, .string (⟨#[]⟩ : ByteArray), .slice B27 l26.length d27] 182, .emp, .box g5 [.int .i64 ((rd_T182 a0 x28).f0), .string ((rd_T182 a0 x28).f1), .slice B33_2 (rd_T182 a0 x28).f2.length d33_2] 182] [7] HS (HS.arr [some 0, some 1, none, some 3] (by decide)) #[false, false, false, false, false, false, false, false] (by kernel_rfl) rfl rfl impl_ListItem.tT5 (fun w39 HT HS HH => ?_)
   (try clear F)
   refine drq_of [(0, some 13), (1, some 14), (2, some 15)] ?_
   repeat (first | refine drp HT ?_ | refine drt HT HH ?_)
   refine drq_end ?_
   refine dr1 3 HT fun K hK => ?_
   refine go_cl1 HS (impl_copyItem.calls ht4.out (HS.ro y33_2) m33_2) Tryz.func201 ?_; clear HS; intro v6 wt4 HS F; obtain ⟨B6, d6, rfl, m6⟩ := HS.form 4 rfl
   refine hK.out _ _ ⟨[], HS.arr [some 0, some 1, none, some 3] (by decide)⟩ (fun HH => ?_)
   clear hK K
   refine norm_ (a' := ?_) ?_ ?_
   rotate_left
   · show Act.put _ (some 16) _ = _; simp only [Act.put, ptn]; rfl
   refine dr1 4 HT fun K hK => ?_
   refine if_li q182 [4] ([t4] : List S182) ([.int .i64 t4.f0, .string t4.f1, .slice B6 t4.f2.length d6] ++ []) HS (MadeL.cons (js1 := [4]) (c := [.int .i64 t4.f0, .string t4.f1, .slice B6 t4.f2.length d6]) rfl (fun S hd hh => q182_pack (x := t4) hd (hh 4 (.own (Zd.slice 182 q182) t4.f2 [.slice B6 t4.f2.length d6]) rfl) (by decide)) MadeL.nil (by decide)) ?_; clear HS; intro v7 w7 HS F; obtain ⟨B7, d7, rfl, m7⟩ := HS.formn 1 5 rfl rfl
   refine hK.out _ _ ⟨[], HS.arr [some 0, some 1, none, some 3] (by decide)⟩ (fun HH => ?_)
   clear hK K
   refine norm_ (a' := ?_) ?_ ?_
   rotate_left
   · show Act.put _ (some 17) _ = _; simp only [Act.put, ptn]; rfl
   refine dr1 5 HT fun K hK => ?_
   refine wp_ap q182 2 5 HS rfl rfl Tryz.underlying180 info182 (of_eq_true c8) ?_; clear HS; intro v10 w10 HS; rw [← e_y10.out] at HS; obtain ⟨B10, d10, rfl, m10⟩ := HS.form 6 rfl
   (try simp only [hpn, hpm] at HS)
   have F := HS.boxes; simp only [bxn] at F
   refine hK.out _ _ ⟨[], HS.arr [some 0, some 1, none, some 3] (by decide)⟩ (fun HH => ?_)
   clear hK K
   refine norm_ (a' := ?_) ?_ ?_
   rotate_left
   · show Act.put _ (some 18) _ = _; simp only [Act.put, ptn]; rfl
   refine drq_of [(6, some 19)] ?_
   repeat (refine drp HT ?_)
   refine drq_end ?_
   refine dr_last 7 HT rfl (by kernel_rfl) (by decide) (fun K hK => ?_)
   refine if_st 1 2 HS (seg := [.slice B10 y10.length d10]) ?_; clear HS; intro w11 HS F
   refine hK.out _ _ ?_
   clear hK K
   refine done_ (done_of HT.out (by kernel_rfl)) ?_
   (try clear F)
   have F := HS.boxes; simp only [bxn] at F
   go_wp2
   go_roundg k25
   case measure => have := HKk25.out; omega
   case rel => exact ⟨_, _, _, rfl, H, ⟨by have := HKk25.out; omega⟩, HS.pick [0, 1, 6] (by decide) (by rfl)⟩
def impl_bytesItem.f (a0 : ByteArray) : Option (S182) := (some (⟨4, a0, ([] : List S182)⟩ : S182))
theorem impl_bytesItem.calls {a0 : ByteArray} {r : S182} {w : World} (h : impl_bytesItem.f a0 = some r) :
    Calls Tryz.prog 147 #[.string a0] w (fun e w' => ∃ v0_ : Value, e = .returned (.agg #[.int .i64 r.f0, .string r.f1, v0_]) ∧ Hp noFP w w' [.own (Zd.slice 182 q182) r.f2 [v0_]]) := by
 have HS := Hp.start w
 have H := Aside0.mk h
 clear h
 unfold impl_bytesItem.f at H
 go_enter Tryz.func147, Tryz.ntmps147
 obtain rfl := zsome H
 go_wp2_with (first | ((with_reducible refine gd 2 rfl ?_); refine ev_bx HS ?_; clear HS; intro g2 w2 HS F) | ((with_reducible refine gate_store (p := 2) rfl ?_); refine ev_st 0 0 HS (seg := [.int .i64 4, .string a0, .slice none 0 0]) ?_; clear HS; intro w3 HS F))
 replace HS := HS.nil 182 q182
 exact bodyPost_ret (results_single rfl (.cell _ _ _ _ _ rfl (HS.boxAt (i := 0) rfl) Tryz.underlying182 rfl (by kernel_rfl) .nil)) rfl ⟨_, rfl, HS.pick [1] (by decide) (by rfl)⟩
mutual
def impl_IntItem.l0 : Nat → (List Int) → Int → Option (S182)
  | 0, _, _ => none
  | k + 1, l19, x21 => (if 0 < x21 then (if 1 + l19.length ≤ 140737488355328 then (lets (([(x21 % 256)] : List Int) ++ l19) fun y27 => (impl_IntItem.l0 k y27 (x21 / 256))) else none) else (if 0 < (l19.length : Int) then (if 128 ≤ (rd l19 0) then (if 1 + l19.length ≤ 140737488355328 then (lets (([0] : List Int) ++ l19) fun y35 => (some (⟨2, (strOfNums y35), ([] : List S182)⟩ : S182))) else none) else (some (⟨2, (strOfNums l19), ([] : List S182)⟩ : S182))) else none))
def impl_IntItem.l1 : Nat → (List Int) → Int → Option (S182)
  | 0, _, _ => none
  | k + 1, l54, x56 => (if 0 < x56 then (if 1 + l54.length ≤ 140737488355328 then (lets (([(x56 % 256)] : List Int) ++ l54) fun y62 => (impl_IntItem.l1 k y62 (x56 / 256))) else none) else (if 0 < (l54.length : Int) then (if 128 ≤ (rd l54 0) then (if 1 + l54.length ≤ 140737488355328 then (lets (([0] : List Int) ++ l54) fun y70 => (some (⟨2, (strOfNums y70), ([] : List S182)⟩ : S182))) else none) else (some (⟨2, (strOfNums l54), ([] : List S182)⟩ : S182))) else none))
end
def impl_IntItem.f (k : Nat) (a0 : Int) : Option (S182) := ((impl_within.f a0 0 1000000000).bind fun t3 => (if t3 = true then (impl_IntItem.l0 k ([(a0 % 256)] : List Int) (a0 / 256)) else (impl_IntItem.l1 k ([0] : List Int) (0 / 256))))
theorem impl_IntItem.calls {k : Nat} {a0 : Int} {r : S182} {w : World} (h : impl_IntItem.f k a0 = some r) :
    Calls Tryz.prog 202 #[.int .i64 a0] w (fun e w' => ∃ v0_ : Value, e = .returned (.agg #[.int .i64 r.f0, .string r.f1, v0_]) ∧ Hp noFP w w' [.own (Zd.slice 182 q182) r.f2 [v0_]]) := by
 have HS := Hp.start w
 have H := Aside0.mk h
 clear h
 unfold impl_IntItem.f at H
 go_enter Tryz.func202, Tryz.ntmps202
 replace H := zbind H; obtain ⟨t3, ht3, H⟩ := H
 go_upto_if 6 with (first | ((with_reducible refine gd 2 rfl ?_); refine ev_bx HS ?_; clear HS; intro g2 w2 HS F) | ((with_reducible refine gd 5 rfl ?_); refine ev_cl HS (impl_within.calls ht3.out) Tryz.func79 ?_; clear HS; intro wt3 HS F))
 replace H := zifb H; rcases H with ⟨c5, H⟩ | ⟨c5, H⟩
 case inl =>
  subst c5
  (try simp only [dcn, dcu, dcf])
  go_wp2_with ((with_reducible refine gd 9 rfl ?_); refine ev_li (Zd.int .u8) [] ([(a0 % 256)] : List Int) ([.int .u8 (a0 % 256)] ++ []) HS (MadeL.cons (js1 := []) (c := [.int .u8 (a0 % 256)]) rfl (made_flat (fun _ => rfl)) MadeL.nil (by decide)) ?_; clear HS; intro v6 w6 HS F; obtain ⟨B6, d6, rfl, m6⟩ := HS.formn 1 1 rfl rfl)
  go_loopg [0, 3] k (fun kq v_0 v_3 w' => ∃ (l19 : List Int) (v20 : Value) (x21 : Int), v_0 = .int .i64 x21 ∧ v_3 = v20 ∧ Aside0 (impl_IntItem.l0 kq l19 x21 = some r) ∧ Aside0 (kq ≤ k) ∧ Hp noFP w w' [.box g2 [.int .i64 0, .string (⟨#[]⟩ : ByteArray), .slice none 0 0] 182, .own (Zd.slice 5 (Zd.int .u8)) l19 [v20]])
  case atStart => exact ⟨_, _, _, rfl, rfl, H, ⟨Nat.le_refl _⟩, HS⟩
  case round =>
   clear HS H; (try clear F)
   obtain ⟨l19, v20, x21, rfl, rfl, H, HKk18, HS⟩ := hrel
   obtain ⟨B20, d20, rfl, m20⟩ := HS.form 1 rfl
   have F := HS.boxes; simp only [bxn] at F
   cases gk with
   | zero => exact absurd H.out (by simp [impl_IntItem.l0])
   | succ k18 =>
    simp only [impl_IntItem.l0] at H
    replace H := zif H; rcases H with ⟨c23, H⟩ | ⟨c23, H⟩
    case inl =>
     replace H := zgo H; obtain ⟨c26, H⟩ := H
     replace H := zlets H; obtain ⟨y27, e_y27, H⟩ := H
     go_wp2_with (first | ((with_reducible refine gd 18 rfl ?_); refine ev_li (Zd.int .u8) [] ([(x21 % 256)] : List Int) ([.int .u8 (x21 % 256)] ++ []) HS (MadeL.cons (js1 := []) (c := [.int .u8 (x21 % 256)]) rfl (made_flat (fun _ => rfl)) MadeL.nil (by decide)) ?_; clear HS; intro v24 w24 HS F; obtain ⟨B24, d24, rfl, m24⟩ := HS.formn 1 2 rfl rfl) | ((with_reducible refine gd 20 rfl ?_); refine ev_apr (flat_int _) 2 HS rfl (HS.rd 1 rfl) Tryz.underlying225 info5 (of_eq_true c26) ?_; clear HS; intro v27 w27 HS; rw [← e_y27.out] at HS; obtain ⟨B27, d27, rfl, m27⟩ := HS.form 3 rfl; (try simp only [hpn, hpm] at HS); have F := HS.boxes; simp only [bxn] at F))
     go_roundg k18
     case measure => have := HKk18.out; omega
     case rel => exact ⟨_, _, _, rfl, rfl, H, ⟨by have := HKk18.out; omega⟩, HS.pick [0, 3] (by decide) (by rfl)⟩
    replace H := zgo H; obtain ⟨c29, H⟩ := H
    have c29n : (0 < l19.length) = True := eq_true (by have := of_eq_true c29; omega)
    obtain ⟨ad30, rfl, e30_0⟩ := Kd.at_int (HS.rd 1 rfl) 0 (of_eq_true (eq_true (by decide))) (of_eq_true c29)
    (try (have e30_0' := e30_0; simp only [Int.toNat_zero, Int.reduceToNat, Int.toNat_natCast, Nat.zero_mul, Nat.one_mul, Nat.zero_add, Nat.add_zero, Addr.add_zero', Addr.add_succ', Nat.reduceMul, Nat.reduceAdd] at e30_0'))
    replace H := znif H; rcases H with ⟨c31, H⟩ | ⟨c31, H⟩
    case inl =>
     obtain rfl := zsome H
     go_wp2_with (first | ((with_reducible refine gd 29 rfl ?_); refine ev_val rfl (run_str rfl rfl Tryz.underlying225 Tryz.underlying5 Tryz.underlying9 (HS.rd 1 rfl)) ?_) | ((with_reducible refine gate_store (p := 2) rfl ?_); refine ev_st 0 0 HS (seg := [.int .i64 2, .string (strOfNums l19), .slice none 0 0]) ?_; clear HS; intro w39 HS F))
     replace HS := HS.nil 182 q182
     exact bodyPost_ret (results_single rfl (.cell _ _ _ _ _ rfl (HS.boxAt (i := 0) rfl) Tryz.underlying182 rfl (by kernel_rfl) .nil)) rfl ⟨_, rfl, HS.pick [2] (by decide) (by rfl)⟩
    replace H := zgo H; obtain ⟨c34, H⟩ := H
    replace H := zlets H; obtain ⟨y35, e_y35, H⟩ := H
    obtain rfl := zsome H
    go_wp2_with (first | ((with_reducible refine gd 25 rfl ?_); refine ev_li (Zd.int .u8) [] ([0] : List Int) ([.int .u8 0] ++ []) HS (MadeL.cons (js1 := []) (c := [.int .u8 0]) rfl (made_flat (fun _ => rfl)) MadeL.nil (by decide)) ?_; clear HS; intro v32 w32 HS F; obtain ⟨B32, d32, rfl, m32⟩ := HS.formn 1 2 rfl rfl) | ((with_reducible refine gd 27 rfl ?_); refine ev_apr (flat_int _) 2 HS rfl (HS.rd 1 rfl) Tryz.underlying225 info5 (of_eq_true c34) ?_; clear HS; intro v35 w35 HS; rw [← e_y35.out] at HS; obtain ⟨B35, d35, rfl, m35⟩ := HS.form 3 rfl; (try simp only [hpn, hpm] at HS); have F := HS.boxes; simp only [bxn] at F) | ((with_reducible refine gd 29 rfl ?_); refine ev_val rfl (run_str rfl rfl Tryz.underlying225 Tryz.underlying5 Tryz.underlying9 (HS.rd 3 rfl)) ?_) | ((with_reducible refine gate_store (p := 2) rfl ?_); refine ev_st 0 0 HS (seg := [.int .i64 2, .string (strOfNums y35), .slice none 0 0]) ?_; clear HS; intro w37 HS F))
    replace HS := HS.nil 182 q182
    exact bodyPost_ret (results_single rfl (.cell _ _ _ _ _ rfl (HS.boxAt (i := 0) rfl) Tryz.underlying182 rfl (by kernel_rfl) .nil)) rfl ⟨_, rfl, HS.pick [4] (by decide) (by rfl)⟩
 subst c5
 (try simp only [dcn, dcu, dcf])
 go_wp2_with ((with_reducible refine gd 9 rfl ?_); refine ev_li (Zd.int .u8) [] ([0] : List Int) ([.int .u8 0] ++ []) HS (MadeL.cons (js1 := []) (c := [.int .u8 0]) rfl (made_flat (fun _ => rfl)) MadeL.nil (by decide)) ?_; clear HS; intro v41 w41 HS F; obtain ⟨B41, d41, rfl, m41⟩ := HS.formn 1 1 rfl rfl)
 go_loopg [0, 3] k (fun kq v_0 v_3 w' => ∃ (l54 : List Int) (v55 : Value) (x56 : Int), v_0 = .int .i64 x56 ∧ v_3 = v55 ∧ Aside0 (impl_IntItem.l1 kq l54 x56 = some r) ∧ Aside0 (kq ≤ k) ∧ Hp noFP w w' [.box g2 [.int .i64 0, .string (⟨#[]⟩ : ByteArray), .slice none 0 0] 182, .own (Zd.slice 5 (Zd.int .u8)) l54 [v55]])
 case atStart => exact ⟨_, _, _, rfl, rfl, H, ⟨Nat.le_refl _⟩, HS⟩
 case round =>
  clear HS H; (try clear F)
  obtain ⟨l54, v55, x56, rfl, rfl, H, HKk53, HS⟩ := hrel
  obtain ⟨B55, d55, rfl, m55⟩ := HS.form 1 rfl
  have F := HS.boxes; simp only [bxn] at F
  cases gk with
  | zero => exact absurd H.out (by simp [impl_IntItem.l1])
  | succ k53 =>
   simp only [impl_IntItem.l1] at H
   replace H := zif H; rcases H with ⟨c58, H⟩ | ⟨c58, H⟩
   case inl =>
    replace H := zgo H; obtain ⟨c61, H⟩ := H
    replace H := zlets H; obtain ⟨y62, e_y62, H⟩ := H
    go_wp2_with (first | ((with_reducible refine gd 18 rfl ?_); refine ev_li (Zd.int .u8) [] ([(x56 % 256)] : List Int) ([.int .u8 (x56 % 256)] ++ []) HS (MadeL.cons (js1 := []) (c := [.int .u8 (x56 % 256)]) rfl (made_flat (fun _ => rfl)) MadeL.nil (by decide)) ?_; clear HS; intro v59 w59 HS F; obtain ⟨B59, d59, rfl, m59⟩ := HS.formn 1 2 rfl rfl) | ((with_reducible refine gd 20 rfl ?_); refine ev_apr (flat_int _) 2 HS rfl (HS.rd 1 rfl) Tryz.underlying225 info5 (of_eq_true c61) ?_; clear HS; intro v62 w62 HS; rw [← e_y62.out] at HS; obtain ⟨B62, d62, rfl, m62⟩ := HS.form 3 rfl; (try simp only [hpn, hpm] at HS); have F := HS.boxes; simp only [bxn] at F))
    go_roundg k53
    case measure => have := HKk53.out; omega
    case rel => exact ⟨_, _, _, rfl, rfl, H, ⟨by have := HKk53.out; omega⟩, HS.pick [0, 3] (by decide) (by rfl)⟩
   replace H := zgo H; obtain ⟨c64, H⟩ := H
   have c64n : (0 < l54.length) = True := eq_true (by have := of_eq_true c64; omega)
   obtain ⟨ad65, rfl, e65_0⟩ := Kd.at_int (HS.rd 1 rfl) 0 (of_eq_true (eq_true (by decide))) (of_eq_true c64)
   (try (have e65_0' := e65_0; simp only [Int.toNat_zero, Int.reduceToNat, Int.toNat_natCast, Nat.zero_mul, Nat.one_mul, Nat.zero_add, Nat.add_zero, Addr.add_zero', Addr.add_succ', Nat.reduceMul, Nat.reduceAdd] at e65_0'))
   replace H := znif H; rcases H with ⟨c66, H⟩ | ⟨c66, H⟩
   case inl =>
    obtain rfl := zsome H
    go_wp2_with (first | ((with_reducible refine gd 29 rfl ?_); refine ev_val rfl (run_str rfl rfl Tryz.underlying225 Tryz.underlying5 Tryz.underlying9 (HS.rd 1 rfl)) ?_) | ((with_reducible refine gate_store (p := 2) rfl ?_); refine ev_st 0 0 HS (seg := [.int .i64 2, .string (strOfNums l54), .slice none 0 0]) ?_; clear HS; intro w74 HS F))
    replace HS := HS.nil 182 q182
    exact bodyPost_ret (results_single rfl (.cell _ _ _ _ _ rfl (HS.boxAt (i := 0) rfl) Tryz.underlying182 rfl (by kernel_rfl) .nil)) rfl ⟨_, rfl, HS.pick [2] (by decide) (by rfl)⟩
   replace H := zgo H; obtain ⟨c69, H⟩ := H
   replace H := zlets H; obtain ⟨y70, e_y70, H⟩ := H
   obtain rfl := zsome H
   go_wp2_with (first | ((with_reducible refine gd 25 rfl ?_); refine ev_li (Zd.int .u8) [] ([0] : List Int) ([.int .u8 0] ++ []) HS (MadeL.cons (js1 := []) (c := [.int .u8 0]) rfl (made_flat (fun _ => rfl)) MadeL.nil (by decide)) ?_; clear HS; intro v67 w67 HS F; obtain ⟨B67, d67, rfl, m67⟩ := HS.formn 1 2 rfl rfl) | ((with_reducible refine gd 27 rfl ?_); refine ev_apr (flat_int _) 2 HS rfl (HS.rd 1 rfl) Tryz.underlying225 info5 (of_eq_true c69) ?_; clear HS; intro v70 w70 HS; rw [← e_y70.out] at HS; obtain ⟨B70, d70, rfl, m70⟩ := HS.form 3 rfl; (try simp only [hpn, hpm] at HS); have F := HS.boxes; simp only [bxn] at F) | ((with_reducible refine gd 29 rfl ?_); refine ev_val rfl (run_str rfl rfl Tryz.underlying225 Tryz.underlying5 Tryz.underlying9 (HS.rd 3 rfl)) ?_) | ((with_reducible refine gate_store (p := 2) rfl ?_); refine ev_st 0 0 HS (seg := [.int .i64 2, .string (strOfNums y70), .slice none 0 0]) ?_; clear HS; intro w72 HS F))
   replace HS := HS.nil 182 q182
   exact bodyPost_ret (results_single rfl (.cell _ _ _ _ _ rfl (HS.boxAt (i := 0) rfl) Tryz.underlying182 rfl (by kernel_rfl) .nil)) rfl ⟨_, rfl, HS.pick [4] (by decide) (by rfl)⟩
def impl_TextItem.f (a0 : ByteArray) : Option (S182) := (some (⟨12, a0, ([] : List S182)⟩ : S182))
theorem impl_TextItem.calls {a0 : ByteArray} {r : S182} {w : World} (h : impl_TextItem.f a0 = some r) :
    Calls Tryz.prog 203 #[.string a0] w (fun e w' => ∃ v0_ : Value, e = .returned (.agg #[.int .i64 r.f0, .string r.f1, v0_]) ∧ Hp noFP w w' [.own (Zd.slice 182 q182) r.f2 [v0_]]) := by
 have HS := Hp.start w
 have H := Aside0.mk h
 clear h
 unfold impl_TextItem.f at H
 go_enter Tryz.func203, Tryz.ntmps203
 obtain rfl := zsome H
 go_wp2_with (first | ((with_reducible refine gd 2 rfl ?_); refine ev_bx HS ?_; clear HS; intro g2 w2 HS F) | ((with_reducible refine gate_store (p := 2) rfl ?_); refine ev_st 0 0 HS (seg := [.int .i64 12, .string a0, .slice none 0 0]) ?_; clear HS; intro w3 HS F))
 replace HS := HS.nil 182 q182
 exact bodyPost_ret (results_single rfl (.cell _ _ _ _ _ rfl (HS.boxAt (i := 0) rfl) Tryz.underlying182 rfl (by kernel_rfl) .nil)) rfl ⟨_, rfl, HS.pick [1] (by decide) (by rfl)⟩
end Go.Proofs.YtacocpknielofaaGreatDoor.F
