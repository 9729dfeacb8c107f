/- Functions of the program and of the law, and that their calls do what is written here. -/
import Derived.Test.YtoaoncnbimcdgaaDoorZgFnExactReadCrlg
namespace Go.Proofs.YtoaoncnbimcdgaaDoor.F
open Go.RowKit Go.Proofs.YtoaoncnbimcdgaaDoorW.PrintWords Go.Proofs.YtoaoncnbimcdgaaDoorW.PrintLast Go.Proofs.YtoaoncnbimcdgaaDoorW.PrintMore Go.Proofs.YtoaoncnbimcdgaaDoor.Z
attribute [local go_sem] max2_int min2_int max_two min_two max_three min_three max_four min_four
set_option linter.unusedVariables false
set_option linter.unusedSimpArgs false
set_option maxRecDepth 100000
/-! ### impl_itemText: function 86 -/
mutual
def impl_itemText.l0 : Nat → (List Int) → Int → S65 → Option (ByteArray)
  | 0, _, _, _ => none
  | k + 1, l19, x21, a0 => (if x21 < (a0.f2.length : Int) then (if 0 ≤ x21 then (if x21 < (a0.f2.length : Int) then ((impl_itemText.f k (rd_T65 a0.f2 x21)).bind fun t31 => (if l19.length + t31.size ≤ 140737488355328 then (lets (l19 ++ bytesOf t31) fun y34 => (impl_itemText.l0 k y34 (wrap64 (x21 + 1)) a0)) else none)) else none) else none) else ((impl_lengthText.f k ((strOfNums l19).size : Int)).bind fun t107001 => (if (strOfNums ([(a0.f0 % 256)] : List Int)).size + t107001.size ≤ 9223372036854775807 then (if ((strOfNums ([(a0.f0 % 256)] : List Int)) ++ t107001).size + (strOfNums l19).size ≤ 9223372036854775807 then (some (((strOfNums ([(a0.f0 % 256)] : List Int)) ++ t107001) ++ (strOfNums l19))) else none) else none)))
def impl_itemText.f : Nat → S65 → Option (ByteArray)
  | 0, _ => none
  | k + 1, a0 => (if a0.f0 = 48 then (impl_itemText.l0 k [] 0 a0) else ((impl_lengthText.f k (a0.f1.size : Int)).bind fun t207001 => (if (strOfNums ([(a0.f0 % 256)] : List Int)).size + t207001.size ≤ 9223372036854775807 then (if ((strOfNums ([(a0.f0 % 256)] : List Int)) ++ t207001).size + a0.f1.size ≤ 9223372036854775807 then (some (((strOfNums ([(a0.f0 % 256)] : List Int)) ++ t207001) ++ a0.f1)) else none) else none)))
end
def impl_itemText.T10 : Bool × List (List Nat × List Nat) := (true, [([], []), ([0], [0]), ([1], [1]), ([2], [2]), ([3], [3]), ([], []), ([5], [5]), ([6], [6]), ([4, 7], [4, 7]), ([], []), ([8, 9], [8, 9]), ([10, 7, 0, 1, 2, 3, 4, 5, 6, 7, 8, 9, 10], [10])])
theorem impl_itemText.tT10 : rtab .any (opsOf Tryd.f86 10) = impl_itemText.T10 := by kernel_rfl
set_option maxHeartbeats 16000000 in
theorem impl_itemText.calls_ (K : Nat) : ∀ {k : Nat} (hK : k ≤ K) {a0 : S65} {Ap0 : Option Addr} {np0 cp0 : Nat} {r : ByteArray} {w : World} (h : impl_itemText.f k a0 = some r) (gp0 : k65.C w Ap0 np0 a0.f2) (lp0 : np0 ≤ cp0),
    Calls Tryd.prog 86 #[.agg #[.int .i64 a0.f0, .string a0.f1, .slice Ap0 np0 cp0]] w (fun e w' => e = .returned (.string r) ∧ Hp noFP w w' []) := by
  induction K with
  | zero =>
    intro k hK a0 Ap0 np0 cp0 r w h gp0 lp0
    obtain rfl : k = 0 := by omega
    exact absurd h (by simp [impl_itemText.f])
  | succ K IH =>
    intro k hK a0 Ap0 np0 cp0 r w h gp0 lp0
    cases k with
    | zero => exact absurd h (by simp [impl_itemText.f])
    | succ k =>
    have HK0 : Aside0 (k ≤ K) := ⟨by omega⟩
    clear hK
    obtain rfl := C_len gp0
    have HS := Hp.start w
    have H := Aside0.mk h
    clear h
    simp only [impl_itemText.f] at H
    go_enter Tryd.func86, Tryd.ntmps86
    go_upto_if 11 with (first | ((with_reducible refine gate_dst (N := 1) rfl ?_); refine ev_box rfl HS (by first | (go_simp; done) | (go_simp; rfl)) rfl ?_; clear HS; (try clear F); intro g1 w1 HS; (try simp only [hpn, hpm] at HS); have F := HS.boxes; simp only [boxFacts, and_true] at F))
    by_cases c3 : a0.f0 = 48
    · replace H := zpos c3 H
      have c3a := beq_iff_eq.mpr c3
      have c3b := bne_eq_false_iff_eq.mpr c3
      clear c3
      (try simp only [c3a, c3b, dcn])
      go_wp2
      replace HS := HS.nil 5 (Zd.int .u8)
      go_loopg [4, 15] k (fun kq v_4 v_15 w' => ∃ (l19 : List Int) (v20 : Value) (x21 : Int), v_4 = v20 ∧ v_15 = .int .i64 x21 ∧ Aside0 (impl_itemText.l0 kq l19 x21 a0 = some r) ∧ Aside0 (kq ≤ k) ∧ Hp noFP w w' [.box g1 [.int .i64 a0.f0, .string a0.f1, .slice Ap0 a0.f2.length cp0] 65, .own (Zd.slice 5 (Zd.int .u8)) l19 [v20]])
      case atStart => exact ⟨_, _, _, rfl, rfl, H, ⟨Nat.le_refl _⟩, HS⟩
      case round =>
       clear HS H; (try clear F)
       obtain ⟨l19, v20, x21, rfl, rfl, H, HKk18, HS⟩ := hrel
       obtain ⟨B20, d20, rfl, m20⟩ := HS.form 1 rfl
       have F := HS.boxes; simp only [boxFacts, and_true] at F
       cases gk with
       | zero => exact absurd H.out (by simp [impl_itemText.l0])
       | succ k18 =>
        simp only [impl_itemText.l0] at H
        by_cases c23 : x21 < (a0.f2.length : Int)
        · replace H := zpos c23 H
          replace c23 := eq_true c23
          by_cases c24 : 0 ≤ x21
          case neg => exact zno c24 H
          replace H := zpos c24 H
          replace c24 := eq_true c24
          by_cases c25 : x21 < (a0.f2.length : Int)
          case neg => exact zno c25 H
          replace H := zpos c25 H
          replace c25 := eq_true c25
          obtain ⟨ad26, B26_2, d26_2, rfl, e26_0, e26_1, e26_2, m26_2, y26_2⟩ := at_T65 gp0 x21 (of_eq_true c24) (of_eq_true c25)
          have e26_0_26 := (HS.keepc e26_0)
          have e26_1_26 := (HS.keepc e26_1)
          have e26_2_26 := (HS.keepc e26_2)
          replace H := zbind H; obtain ⟨t31, ht31, H⟩ := H
          by_cases c33 : l19.length + t31.size ≤ 140737488355328
          case neg => exact zno c33 H
          replace H := zpos c33 H
          replace c33 := eq_true c33
          replace H := zlets H; obtain ⟨y34, e_y34, H⟩ := H
          go_wp2_with (first | ((with_reducible refine gate_dst (N := 6) rfl ?_); refine ev_box rfl HS (by first | (go_simp; done) | (go_simp; rfl)) rfl ?_; clear HS; (try clear F); intro g6 w6 HS; (try simp only [hpn, hpm] at HS); have F := HS.boxes; simp only [boxFacts, and_true] at F) | ((with_reducible refine gate_store (p := 6) rfl ?_); refine ev_store rfl 2 0 HS (seg := [.int .i64 ((rd_T65 a0.f2 x21).f0), .string ((rd_T65 a0.f2 x21).f1), .slice B26_2 (rd_T65 a0.f2 x21).f2.length d26_2]) rfl rfl rfl rfl rfl rfl (by kernel_rfl) (by simp [wrt]) (by simp [Value.oneCell']) ?_; clear HS; (try clear F); intro w29 HS; (try simp only [hpn, hpm] at HS); have F := HS.boxes; simp only [boxFacts, and_true] at F) | ((with_reducible refine gate_dst (N := 21) rfl ?_); refine ev_call rfl Tryd.func86 (by kernel_rfl) rfl #[.agg #[.int .i64 ((rd_T65 a0.f2 x21).f0), .string ((rd_T65 a0.f2 x21).f1), .slice B26_2 (rd_T65 a0.f2 x21).f2.length d26_2]] rfl (by simp only [List.map_toArray, List.map_cons, List.map_nil]; rfl) ?_; refine (IH (by have := HK0.out; have := HKk18.out; omega) ht31.out (HS.ro y26_2) m26_2).mono ?_; rintro _ wt31 ⟨rfl, HQ⟩; refine ⟨_, rfl, ?_⟩; replace HS := HS.call HQ; clear HQ; (try clear F); (try simp only [hpn, hpm] at HS); have F := HS.boxes; simp only [boxFacts, and_true] at F) | ((with_reducible refine gate_dst (N := 22) rfl ?_); refine ev_appends rfl 1 HS rfl rfl rfl rfl Tryd.underlying73 Tryd.underlying9 info5 (by have := of_eq_true c33; first | omega | (simp only [List.length_cons, List.length_nil, List.length_append, Nat.zero_add] at this ⊢; omega)) ?_; clear HS; (try clear F); intro v34 w34 HS; rw [← e_y34.out] at HS; obtain ⟨B34, d34, rfl, m34⟩ := HS.form 3 rfl; (try simp only [hpn, hpm] at HS); have F := HS.boxes; simp only [boxFacts, and_true] at F))
          go_roundg k18
          case measure => have := HK0.out; have := HKk18.out; omega
          case rel => exact ⟨_, _, _, rfl, rfl, H, ⟨by have := HK0.out; have := HKk18.out; omega⟩, HS.pick [0, 3] (by decide) (by rfl)⟩
        · replace H := zneg c23 H
          replace c23 := eq_false c23
          go_wp2_with (first | ((with_reducible refine gate_dst (N := 25) rfl ?_); refine ev_val rfl (run_str rfl rfl Tryd.underlying73 Tryd.underlying5 Tryd.underlying9 (HS.rd 1 rfl)) ?_))
          replace H := zbind H; obtain ⟨t107001, ht107001, H⟩ := H
          by_cases c108001 : (strOfNums ([(a0.f0 % 256)] : List Int)).size + t107001.size ≤ 9223372036854775807
          case neg => exact zno c108001 H
          replace H := zpos c108001 H
          replace c108001 := eq_true c108001
          by_cases c110001 : ((strOfNums ([(a0.f0 % 256)] : List Int)) ++ t107001).size + (strOfNums l19).size ≤ 9223372036854775807
          case neg => exact zno c110001 H
          replace H := zpos c110001 H
          replace c110001 := eq_true c110001
          refine dr_start [] HS #[false, false, false, false, false, false, false, false, false, false, false, false] (by kernel_rfl) rfl rfl impl_itemText.tT10 (fun w37 HT HS HH => ?_)
          (try clear F)
          refine join_ 0 #[true, true, true, true, true, true, true, true, true, true, true, true] (fun (v103001 : Value) => ([(26, .pointer (some ⟨g1, 0, none⟩)), (27, .int .i64 a0.f0), (28, .int .u8 (a0.f0 % 256)), (29, v103001), (30, .string (strOfNums ([(a0.f0 % 256)] : List Int))), (31, .string (strOfNums l19)), (32, .int .i64 ((strOfNums l19).size : Int)), (33, .string t107001), (34, .string ((strOfNums ([(a0.f0 % 256)] : List Int)) ++ t107001)), (35, .string (strOfNums l19)), (36, .string (((strOfNums ([(a0.f0 % 256)] : List Int)) ++ t107001) ++ (strOfNums l19))), (2, .string (((strOfNums ([(a0.f0 % 256)] : List Int)) ++ t107001) ++ (strOfNums l19)))] : List (Tmp × Value))) (fun (v103001 : Value) w' => Hp noFP w w' [.box g1 [.int .i64 a0.f0, .string a0.f1, .slice Ap0 a0.f2.length cp0] 65, .own (Zd.slice 5 (Zd.int .u8)) l19 [.slice B20 l19.length d20], .own (Zd.slice 5 (Zd.int .u8)) ([(a0.f0 % 256)] : List Int) [v103001]]) ?_ ?_
          rotate_left
          · intro hJ
            refine drq_of [(0, some 26), (1, some 27), (2, some 28), (5, some 31), (6, some 32), (9, some 35)] ?_
            repeat (first | (refine drq_pure HT (v := ?_) (a' := ?_) rfl rfl (by kernel_rfl) (fun _ _ _ h => h) (.inl ⟨by rfl, ?_⟩) ?_ ?_; rotate_left; (intro w'; go_simp; with_reducible rfl); rotate_left; (simp only [Act.put, List.setIfInBounds_toArray, List.set_cons_zero, List.set_cons_succ, i64_w, i32_w]; rfl)) | (refine drq_take HT HH (v := ?_) (a' := ?_) rfl rfl (by kernel_rfl) (fun _ _ _ h => h) (.inl ⟨by rfl, ?_⟩) ?_ ?_; rotate_left; (rintro w' ⟨rs', HS'⟩; have F := HS'.boxes; simp only [boxFacts, List.cons_append, List.nil_append, and_true] at F; go_simp; with_reducible rfl); rotate_left; (simp only [Act.put, List.setIfInBounds_toArray, List.set_cons_zero, List.set_cons_succ, i64_w, i32_w]; rfl)))
            refine drq_end ?_
            refine dr_any [3, 7] HT (by kernel_rfl) (by decide) (AllReadyL.cons rfl (by decide) (fun K hK => ?_) (AllReadyL.cons rfl (by decide) (fun K hK => ?_) AllReadyL.nil))
            · refine if_wp (by rfl) ?_; refine wp_lit (Zd.int .u8) [] ([(a0.f0 % 256)] : List Int) ([.int .u8 (a0.f0 % 256)] ++ []) HS (by first | (go_simp; done) | (go_simp; rfl)) rfl rfl (Nat.le_of_ble_eq_true rfl) (MadeL.cons (js1 := []) (c := [.int .u8 (a0.f0 % 256)]) rfl (made_flat (fun _ => rfl)) MadeL.nil (by decide)) ?_; clear HS; (try clear F); intro v103001 w103001 HS; obtain ⟨B103001, d103001, rfl, m103001⟩ := HS.formn 1 2 rfl rfl
              (try simp only [hpn, hpm] at HS)
              have F := HS.boxes; simp only [boxFacts, and_true] at F
              refine hK.out _ _ ⟨_, HS⟩ (fun HH => ?_)
              clear hK K
              refine norm_ (a' := ?_) ?_ ?_
              rotate_left
              · show Act.put _ (some 29) _ = _; simp only [Act.put, List.setIfInBounds_toArray, List.set_cons_zero, List.set_cons_succ, i64_w, i32_w]; rfl
              refine dr_any [4, 7] HT (by kernel_rfl) (by decide) (AllReadyL.cons rfl (by decide) (fun K hK => ?_) (AllReadyL.cons rfl (by decide) (fun K hK => ?_) AllReadyL.nil))
              · refine if_wp (by rfl) ?_; refine wp_run (run_str rfl rfl Tryd.underlying73 Tryd.underlying5 Tryd.underlying9 (HS.rd 2 rfl)) ?_
                (try simp only [hpn, hpm] at HS)
                have F := HS.boxes; simp only [boxFacts, and_true] at F
                refine hK.out _ _ ⟨_, HS⟩ (fun HH => ?_)
                clear hK K
                refine norm_ (a' := ?_) ?_ ?_
                rotate_left
                · show Act.put _ (some 30) _ = _; simp only [Act.put, List.setIfInBounds_toArray, List.set_cons_zero, List.set_cons_succ, i64_w, i32_w]; rfl
                refine dr_one 7 HT rfl (by kernel_rfl) (by decide) (fun K hK => ?_)
                refine goes_ Tryd.func107 (by kernel_rfl) rfl #[.int .i64 ((strOfNums l19).size : Int)] (by rfl) rfl rfl (by simp only [List.map_toArray, List.map_cons, List.map_nil]; rfl) ?_; refine (impl_lengthText.calls ht107001.out).mono ?_; rintro _ wt107001 ⟨rfl, HQ⟩; refine ⟨_, rfl, ?_⟩; replace HS := HS.call HQ; clear HQ; (try clear F)
                (try simp only [hpn, hpm] at HS)
                have F := HS.boxes; simp only [boxFacts, and_true] at F
                refine hK.out _ _ ⟨_, HS⟩ (fun HH => ?_)
                clear hK K
                refine norm_ (a' := ?_) ?_ ?_
                rotate_left
                · show Act.put _ (some 33) _ = _; simp only [Act.put, List.setIfInBounds_toArray, List.set_cons_zero, List.set_cons_succ, i64_w, i32_w]; rfl
                refine dr_pure 8 (some 34) HT (v := .string ((strOfNums ([(a0.f0 % 256)] : List Int)) ++ t107001)) (a' := ?_) rfl rfl (by kernel_rfl) (fun _ _ _ h => h) (.inl ⟨by rfl, fun w' => (run_cat rfl rfl rfl (of_eq_true c108001))⟩) ?_ ?_
                rotate_left
                · simp only [Act.put, List.setIfInBounds_toArray, List.set_cons_zero, List.set_cons_succ, i64_w, i32_w]; rfl
                refine dr_pure 10 (some 36) HT (v := .string (((strOfNums ([(a0.f0 % 256)] : List Int)) ++ t107001) ++ (strOfNums l19))) (a' := ?_) rfl rfl (by kernel_rfl) (fun _ _ _ h => h) (.inl ⟨by rfl, fun w' => (run_cat rfl rfl rfl (of_eq_true c110001))⟩) ?_ ?_
                rotate_left
                · simp only [Act.put, List.setIfInBounds_toArray, List.set_cons_zero, List.set_cons_succ, i64_w, i32_w]; rfl
                refine drq_of [(11, some 2)] ?_
                repeat (first | (refine drq_pure HT (v := ?_) (a' := ?_) rfl rfl (by kernel_rfl) (fun _ _ _ h => h) (.inl ⟨by rfl, ?_⟩) ?_ ?_; rotate_left; (intro w'; go_simp; with_reducible rfl); rotate_left; (simp only [Act.put, List.setIfInBounds_toArray, List.set_cons_zero, List.set_cons_succ, i64_w, i32_w]; rfl)))
                refine drq_end ?_
                refine norm_ ?_ (hJ (.slice B103001 1 d103001) _ (HS.arr [some 0, some 1, some 2] (by decide)))
                simp only [putAll, Act.put, List.setIfInBounds_toArray, List.set_cons_zero, List.set_cons_succ, i64_w, i32_w]
                (try rfl)
              · refine goes_ Tryd.func107 (by kernel_rfl) rfl #[.int .i64 ((strOfNums l19).size : Int)] (by rfl) rfl rfl (by simp only [List.map_toArray, List.map_cons, List.map_nil]; rfl) ?_; refine (impl_lengthText.calls ht107001.out).mono ?_; rintro _ wt107001 ⟨rfl, HQ⟩; refine ⟨_, rfl, ?_⟩; replace HS := HS.call HQ; clear HQ; (try clear F)
                (try simp only [hpn, hpm] at HS)
                have F := HS.boxes; simp only [boxFacts, and_true] at F
                refine hK.out _ _ ⟨_, HS⟩ (fun HH => ?_)
                clear hK K
                refine norm_ (a' := ?_) ?_ ?_
                rotate_left
                · show Act.put _ (some 33) _ = _; simp only [Act.put, List.setIfInBounds_toArray, List.set_cons_zero, List.set_cons_succ, i64_w, i32_w]; rfl
                refine dr_one 4 HT rfl (by kernel_rfl) (by decide) (fun K hK => ?_)
                refine if_wp (by rfl) ?_; refine wp_run (run_str rfl rfl Tryd.underlying73 Tryd.underlying5 Tryd.underlying9 (HS.rd 2 rfl)) ?_
                (try simp only [hpn, hpm] at HS)
                have F := HS.boxes; simp only [boxFacts, and_true] at F
                refine hK.out _ _ ⟨_, HS⟩ (fun HH => ?_)
                clear hK K
                refine norm_ (a' := ?_) ?_ ?_
                rotate_left
                · show Act.put _ (some 30) _ = _; simp only [Act.put, List.setIfInBounds_toArray, List.set_cons_zero, List.set_cons_succ, i64_w, i32_w]; rfl
                refine dr_pure 8 (some 34) HT (v := .string ((strOfNums ([(a0.f0 % 256)] : List Int)) ++ t107001)) (a' := ?_) rfl rfl (by kernel_rfl) (fun _ _ _ h => h) (.inl ⟨by rfl, fun w' => (run_cat rfl rfl rfl (of_eq_true c108001))⟩) ?_ ?_
                rotate_left
                · simp only [Act.put, List.setIfInBounds_toArray, List.set_cons_zero, List.set_cons_succ, i64_w, i32_w]; rfl
                refine dr_pure 10 (some 36) HT (v := .string (((strOfNums ([(a0.f0 % 256)] : List Int)) ++ t107001) ++ (strOfNums l19))) (a' := ?_) rfl rfl (by kernel_rfl) (fun _ _ _ h => h) (.inl ⟨by rfl, fun w' => (run_cat rfl rfl rfl (of_eq_true c110001))⟩) ?_ ?_
                rotate_left
                · simp only [Act.put, List.setIfInBounds_toArray, List.set_cons_zero, List.set_cons_succ, i64_w, i32_w]; rfl
                refine drq_of [(11, some 2)] ?_
                repeat (first | (refine drq_pure HT (v := ?_) (a' := ?_) rfl rfl (by kernel_rfl) (fun _ _ _ h => h) (.inl ⟨by rfl, ?_⟩) ?_ ?_; rotate_left; (intro w'; go_simp; with_reducible rfl); rotate_left; (simp only [Act.put, List.setIfInBounds_toArray, List.set_cons_zero, List.set_cons_succ, i64_w, i32_w]; rfl)))
                refine drq_end ?_
                refine norm_ ?_ (hJ (.slice B103001 1 d103001) _ (HS.arr [some 0, some 1, some 2] (by decide)))
                simp only [putAll, Act.put, List.setIfInBounds_toArray, List.set_cons_zero, List.set_cons_succ, i64_w, i32_w]
                (try rfl)
            · refine goes_ Tryd.func107 (by kernel_rfl) rfl #[.int .i64 ((strOfNums l19).size : Int)] (by rfl) rfl rfl (by simp only [List.map_toArray, List.map_cons, List.map_nil]; rfl) ?_; refine (impl_lengthText.calls ht107001.out).mono ?_; rintro _ wt107001 ⟨rfl, HQ⟩; refine ⟨_, rfl, ?_⟩; replace HS := HS.call HQ; clear HQ; (try clear F)
              (try simp only [hpn, hpm] at HS)
              have F := HS.boxes; simp only [boxFacts, and_true] at F
              refine hK.out _ _ ⟨_, HS⟩ (fun HH => ?_)
              clear hK K
              refine norm_ (a' := ?_) ?_ ?_
              rotate_left
              · show Act.put _ (some 33) _ = _; simp only [Act.put, List.setIfInBounds_toArray, List.set_cons_zero, List.set_cons_succ, i64_w, i32_w]; rfl
              refine dr_one 3 HT rfl (by kernel_rfl) (by decide) (fun K hK => ?_)
              refine if_wp (by rfl) ?_; refine wp_lit (Zd.int .u8) [] ([(a0.f0 % 256)] : List Int) ([.int .u8 (a0.f0 % 256)] ++ []) HS (by first | (go_simp; done) | (go_simp; rfl)) rfl rfl (Nat.le_of_ble_eq_true rfl) (MadeL.cons (js1 := []) (c := [.int .u8 (a0.f0 % 256)]) rfl (made_flat (fun _ => rfl)) MadeL.nil (by decide)) ?_; clear HS; (try clear F); intro v103001 w103001 HS; obtain ⟨B103001, d103001, rfl, m103001⟩ := HS.formn 1 2 rfl rfl
              (try simp only [hpn, hpm] at HS)
              have F := HS.boxes; simp only [boxFacts, and_true] at F
              refine hK.out _ _ ⟨_, HS⟩ (fun HH => ?_)
              clear hK K
              refine norm_ (a' := ?_) ?_ ?_
              rotate_left
              · show Act.put _ (some 29) _ = _; simp only [Act.put, List.setIfInBounds_toArray, List.set_cons_zero, List.set_cons_succ, i64_w, i32_w]; rfl
              refine dr_one 4 HT rfl (by kernel_rfl) (by decide) (fun K hK => ?_)
              refine if_wp (by rfl) ?_; refine wp_run (run_str rfl rfl Tryd.underlying73 Tryd.underlying5 Tryd.underlying9 (HS.rd 2 rfl)) ?_
              (try simp only [hpn, hpm] at HS)
              have F := HS.boxes; simp only [boxFacts, and_true] at F
              refine hK.out _ _ ⟨_, HS⟩ (fun HH => ?_)
              clear hK K
              refine norm_ (a' := ?_) ?_ ?_
              rotate_left
              · show Act.put _ (some 30) _ = _; simp only [Act.put, List.setIfInBounds_toArray, List.set_cons_zero, List.set_cons_succ, i64_w, i32_w]; rfl
              refine dr_pure 8 (some 34) HT (v := .string ((strOfNums ([(a0.f0 % 256)] : List Int)) ++ t107001)) (a' := ?_) rfl rfl (by kernel_rfl) (fun _ _ _ h => h) (.inl ⟨by rfl, fun w' => (run_cat rfl rfl rfl (of_eq_true c108001))⟩) ?_ ?_
              rotate_left
              · simp only [Act.put, List.setIfInBounds_toArray, List.set_cons_zero, List.set_cons_succ, i64_w, i32_w]; rfl
              refine dr_pure 10 (some 36) HT (v := .string (((strOfNums ([(a0.f0 % 256)] : List Int)) ++ t107001) ++ (strOfNums l19))) (a' := ?_) rfl rfl (by kernel_rfl) (fun _ _ _ h => h) (.inl ⟨by rfl, fun w' => (run_cat rfl rfl rfl (of_eq_true c110001))⟩) ?_ ?_
              rotate_left
              · simp only [Act.put, List.setIfInBounds_toArray, List.set_cons_zero, List.set_cons_succ, i64_w, i32_w]; rfl
              refine drq_of [(11, some 2)] ?_
              repeat (first | (refine drq_pure HT (v := ?_) (a' := ?_) rfl rfl (by kernel_rfl) (fun _ _ _ h => h) (.inl ⟨by rfl, ?_⟩) ?_ ?_; rotate_left; (intro w'; go_simp; with_reducible rfl); rotate_left; (simp only [Act.put, List.setIfInBounds_toArray, List.set_cons_zero, List.set_cons_succ, i64_w, i32_w]; rfl)))
              refine drq_end ?_
              refine norm_ ?_ (hJ (.slice B103001 1 d103001) _ (HS.arr [some 0, some 1, some 2] (by decide)))
              simp only [putAll, Act.put, List.setIfInBounds_toArray, List.set_cons_zero, List.set_cons_succ, i64_w, i32_w]
              (try rfl)
          rintro v103001 w199999 HS
          obtain ⟨B103001, d103001, rfl, m103001⟩ := HS.formn 1 2 rfl (by first | rfl | simp)
          have F := HS.boxes; simp only [boxFacts, and_true] at F
          refine norm_ (a' := ?_) ?_ ?_
          rotate_left
          · simp only [putAll, Act.put, List.setIfInBounds_toArray, List.set_cons_zero, List.set_cons_succ, i64_w, i32_w]; rfl
          refine done_ (done_of HT.out (by kernel_rfl)) ?_
          obtain rfl := zsome H
          go_wp2
          go_ret
          exact ⟨rfl, HS.pick [] (by decide) (by rfl)⟩
    · replace H := zneg c3 H
      have c3a := beq_eq_false_iff_ne.mpr c3
      have c3b := bne_iff_ne.mpr c3
      clear c3
      (try simp only [c3a, c3b, dcn])
      (try go_wp2)
      replace H := zbind H; obtain ⟨t207001, ht207001, H⟩ := H
      by_cases c208001 : (strOfNums ([(a0.f0 % 256)] : List Int)).size + t207001.size ≤ 9223372036854775807
      case neg => exact zno c208001 H
      replace H := zpos c208001 H
      replace c208001 := eq_true c208001
      by_cases c210001 : ((strOfNums ([(a0.f0 % 256)] : List Int)) ++ t207001).size + a0.f1.size ≤ 9223372036854775807
      case neg => exact zno c210001 H
      replace H := zpos c210001 H
      replace c210001 := eq_true c210001
      refine dr_start [] HS #[false, false, false, false, false, false, false, false, false, false, false, false] (by kernel_rfl) rfl rfl impl_itemText.tT10 (fun w40 HT HS HH => ?_)
      (try clear F)
      refine join_ 0 #[true, true, true, true, true, true, true, true, true, true, true, true] (fun (v203001 : Value) => ([(26, .pointer (some ⟨g1, 0, none⟩)), (27, .int .i64 a0.f0), (28, .int .u8 (a0.f0 % 256)), (29, v203001), (30, .string (strOfNums ([(a0.f0 % 256)] : List Int))), (31, .string a0.f1), (32, .int .i64 (a0.f1.size : Int)), (33, .string t207001), (34, .string ((strOfNums ([(a0.f0 % 256)] : List Int)) ++ t207001)), (35, .string a0.f1), (36, .string (((strOfNums ([(a0.f0 % 256)] : List Int)) ++ t207001) ++ a0.f1)), (2, .string (((strOfNums ([(a0.f0 % 256)] : List Int)) ++ t207001) ++ a0.f1))] : List (Tmp × Value))) (fun (v203001 : Value) w' => Hp noFP w w' [.box g1 [.int .i64 a0.f0, .string a0.f1, .slice Ap0 a0.f2.length cp0] 65, .own (Zd.slice 5 (Zd.int .u8)) ([(a0.f0 % 256)] : List Int) [v203001]]) ?_ ?_
      rotate_left
      · intro hJ
        refine drq_of [(0, some 26), (1, some 27), (2, some 28), (5, some 31), (6, some 32), (9, some 35)] ?_
        repeat (first | (refine drq_pure HT (v := ?_) (a' := ?_) rfl rfl (by kernel_rfl) (fun _ _ _ h => h) (.inl ⟨by rfl, ?_⟩) ?_ ?_; rotate_left; (intro w'; go_simp; with_reducible rfl); rotate_left; (simp only [Act.put, List.setIfInBounds_toArray, List.set_cons_zero, List.set_cons_succ, i64_w, i32_w]; rfl)) | (refine drq_take HT HH (v := ?_) (a' := ?_) rfl rfl (by kernel_rfl) (fun _ _ _ h => h) (.inl ⟨by rfl, ?_⟩) ?_ ?_; rotate_left; (rintro w' ⟨rs', HS'⟩; have F := HS'.boxes; simp only [boxFacts, List.cons_append, List.nil_append, and_true] at F; go_simp; with_reducible rfl); rotate_left; (simp only [Act.put, List.setIfInBounds_toArray, List.set_cons_zero, List.set_cons_succ, i64_w, i32_w]; rfl)))
        refine drq_end ?_
        refine dr_any [3, 7] HT (by kernel_rfl) (by decide) (AllReadyL.cons rfl (by decide) (fun K hK => ?_) (AllReadyL.cons rfl (by decide) (fun K hK => ?_) AllReadyL.nil))
        · refine if_wp (by rfl) ?_; refine wp_lit (Zd.int .u8) [] ([(a0.f0 % 256)] : List Int) ([.int .u8 (a0.f0 % 256)] ++ []) HS (by first | (go_simp; done) | (go_simp; rfl)) rfl rfl (Nat.le_of_ble_eq_true rfl) (MadeL.cons (js1 := []) (c := [.int .u8 (a0.f0 % 256)]) rfl (made_flat (fun _ => rfl)) MadeL.nil (by decide)) ?_; clear HS; (try clear F); intro v203001 w203001 HS; obtain ⟨B203001, d203001, rfl, m203001⟩ := HS.formn 1 1 rfl rfl
          (try simp only [hpn, hpm] at HS)
          have F := HS.boxes; simp only [boxFacts, and_true] at F
          refine hK.out _ _ ⟨_, HS⟩ (fun HH => ?_)
          clear hK K
          refine norm_ (a' := ?_) ?_ ?_
          rotate_left
          · show Act.put _ (some 29) _ = _; simp only [Act.put, List.setIfInBounds_toArray, List.set_cons_zero, List.set_cons_succ, i64_w, i32_w]; rfl
          refine dr_any [4, 7] HT (by kernel_rfl) (by decide) (AllReadyL.cons rfl (by decide) (fun K hK => ?_) (AllReadyL.cons rfl (by decide) (fun K hK => ?_) AllReadyL.nil))
          · refine if_wp (by rfl) ?_; refine wp_run (run_str rfl rfl Tryd.underlying73 Tryd.underlying5 Tryd.underlying9 (HS.rd 1 rfl)) ?_
            (try simp only [hpn, hpm] at HS)
            have F := HS.boxes; simp only [boxFacts, and_true] at F
            refine hK.out _ _ ⟨_, HS⟩ (fun HH => ?_)
            clear hK K
            refine norm_ (a' := ?_) ?_ ?_
            rotate_left
            · show Act.put _ (some 30) _ = _; simp only [Act.put, List.setIfInBounds_toArray, List.set_cons_zero, List.set_cons_succ, i64_w, i32_w]; rfl
            refine dr_one 7 HT rfl (by kernel_rfl) (by decide) (fun K hK => ?_)
            refine goes_ Tryd.func107 (by kernel_rfl) rfl #[.int .i64 (a0.f1.size : Int)] (by rfl) rfl rfl (by simp only [List.map_toArray, List.map_cons, List.map_nil]; rfl) ?_; refine (impl_lengthText.calls ht207001.out).mono ?_; rintro _ wt207001 ⟨rfl, HQ⟩; refine ⟨_, rfl, ?_⟩; replace HS := HS.call HQ; clear HQ; (try clear F)
            (try simp only [hpn, hpm] at HS)
            have F := HS.boxes; simp only [boxFacts, and_true] at F
            refine hK.out _ _ ⟨_, HS⟩ (fun HH => ?_)
            clear hK K
            refine norm_ (a' := ?_) ?_ ?_
            rotate_left
            · show Act.put _ (some 33) _ = _; simp only [Act.put, List.setIfInBounds_toArray, List.set_cons_zero, List.set_cons_succ, i64_w, i32_w]; rfl
            refine dr_pure 8 (some 34) HT (v := .string ((strOfNums ([(a0.f0 % 256)] : List Int)) ++ t207001)) (a' := ?_) rfl rfl (by kernel_rfl) (fun _ _ _ h => h) (.inl ⟨by rfl, fun w' => (run_cat rfl rfl rfl (of_eq_true c208001))⟩) ?_ ?_
            rotate_left
            · simp only [Act.put, List.setIfInBounds_toArray, List.set_cons_zero, List.set_cons_succ, i64_w, i32_w]; rfl
            refine dr_pure 10 (some 36) HT (v := .string (((strOfNums ([(a0.f0 % 256)] : List Int)) ++ t207001) ++ a0.f1)) (a' := ?_) rfl rfl (by kernel_rfl) (fun _ _ _ h => h) (.inl ⟨by rfl, fun w' => (run_cat rfl rfl rfl (of_eq_true c210001))⟩) ?_ ?_
            rotate_left
            · simp only [Act.put, List.setIfInBounds_toArray, List.set_cons_zero, List.set_cons_succ, i64_w, i32_w]; rfl
            refine drq_of [(11, some 2)] ?_
            repeat (first | (refine drq_pure HT (v := ?_) (a' := ?_) rfl rfl (by kernel_rfl) (fun _ _ _ h => h) (.inl ⟨by rfl, ?_⟩) ?_ ?_; rotate_left; (intro w'; go_simp; with_reducible rfl); rotate_left; (simp only [Act.put, List.setIfInBounds_toArray, List.set_cons_zero, List.set_cons_succ, i64_w, i32_w]; rfl)))
            refine drq_end ?_
            refine norm_ ?_ (hJ (.slice B203001 1 d203001) _ (HS.arr [some 0, some 1] (by decide)))
            simp only [putAll, Act.put, List.setIfInBounds_toArray, List.set_cons_zero, List.set_cons_succ, i64_w, i32_w]
            (try rfl)
          · refine goes_ Tryd.func107 (by kernel_rfl) rfl #[.int .i64 (a0.f1.size : Int)] (by rfl) rfl rfl (by simp only [List.map_toArray, List.map_cons, List.map_nil]; rfl) ?_; refine (impl_lengthText.calls ht207001.out).mono ?_; rintro _ wt207001 ⟨rfl, HQ⟩; refine ⟨_, rfl, ?_⟩; replace HS := HS.call HQ; clear HQ; (try clear F)
            (try simp only [hpn, hpm] at HS)
            have F := HS.boxes; simp only [boxFacts, and_true] at F
            refine hK.out _ _ ⟨_, HS⟩ (fun HH => ?_)
            clear hK K
            refine norm_ (a' := ?_) ?_ ?_
            rotate_left
            · show Act.put _ (some 33) _ = _; simp only [Act.put, List.setIfInBounds_toArray, List.set_cons_zero, List.set_cons_succ, i64_w, i32_w]; rfl
            refine dr_one 4 HT rfl (by kernel_rfl) (by decide) (fun K hK => ?_)
            refine if_wp (by rfl) ?_; refine wp_run (run_str rfl rfl Tryd.underlying73 Tryd.underlying5 Tryd.underlying9 (HS.rd 1 rfl)) ?_
            (try simp only [hpn, hpm] at HS)
            have F := HS.boxes; simp only [boxFacts, and_true] at F
            refine hK.out _ _ ⟨_, HS⟩ (fun HH => ?_)
            clear hK K
            refine norm_ (a' := ?_) ?_ ?_
            rotate_left
            · show Act.put _ (some 30) _ = _; simp only [Act.put, List.setIfInBounds_toArray, List.set_cons_zero, List.set_cons_succ, i64_w, i32_w]; rfl
            refine dr_pure 8 (some 34) HT (v := .string ((strOfNums ([(a0.f0 % 256)] : List Int)) ++ t207001)) (a' := ?_) rfl rfl (by kernel_rfl) (fun _ _ _ h => h) (.inl ⟨by rfl, fun w' => (run_cat rfl rfl rfl (of_eq_true c208001))⟩) ?_ ?_
            rotate_left
            · simp only [Act.put, List.setIfInBounds_toArray, List.set_cons_zero, List.set_cons_succ, i64_w, i32_w]; rfl
            refine dr_pure 10 (some 36) HT (v := .string (((strOfNums ([(a0.f0 % 256)] : List Int)) ++ t207001) ++ a0.f1)) (a' := ?_) rfl rfl (by kernel_rfl) (fun _ _ _ h => h) (.inl ⟨by rfl, fun w' => (run_cat rfl rfl rfl (of_eq_true c210001))⟩) ?_ ?_
            rotate_left
            · simp only [Act.put, List.setIfInBounds_toArray, List.set_cons_zero, List.set_cons_succ, i64_w, i32_w]; rfl
            refine drq_of [(11, some 2)] ?_
            repeat (first | (refine drq_pure HT (v := ?_) (a' := ?_) rfl rfl (by kernel_rfl) (fun _ _ _ h => h) (.inl ⟨by rfl, ?_⟩) ?_ ?_; rotate_left; (intro w'; go_simp; with_reducible rfl); rotate_left; (simp only [Act.put, List.setIfInBounds_toArray, List.set_cons_zero, List.set_cons_succ, i64_w, i32_w]; rfl)))
            refine drq_end ?_
            refine norm_ ?_ (hJ (.slice B203001 1 d203001) _ (HS.arr [some 0, some 1] (by decide)))
            simp only [putAll, Act.put, List.setIfInBounds_toArray, List.set_cons_zero, List.set_cons_succ, i64_w, i32_w]
            (try rfl)
        · refine goes_ Tryd.func107 (by kernel_rfl) rfl #[.int .i64 (a0.f1.size : Int)] (by rfl) rfl rfl (by simp only [List.map_toArray, List.map_cons, List.map_nil]; rfl) ?_; refine (impl_lengthText.calls ht207001.out).mono ?_; rintro _ wt207001 ⟨rfl, HQ⟩; refine ⟨_, rfl, ?_⟩; replace HS := HS.call HQ; clear HQ; (try clear F)
          (try simp only [hpn, hpm] at HS)
          have F := HS.boxes; simp only [boxFacts, and_true] at F
          refine hK.out _ _ ⟨_, HS⟩ (fun HH => ?_)
          clear hK K
          refine norm_ (a' := ?_) ?_ ?_
          rotate_left
          · show Act.put _ (some 33) _ = _; simp only [Act.put, List.setIfInBounds_toArray, List.set_cons_zero, List.set_cons_succ, i64_w, i32_w]; rfl
          refine dr_one 3 HT rfl (by kernel_rfl) (by decide) (fun K hK => ?_)
          refine if_wp (by rfl) ?_; refine wp_lit (Zd.int .u8) [] ([(a0.f0 % 256)] : List Int) ([.int .u8 (a0.f0 % 256)] ++ []) HS (by first | (go_simp; done) | (go_simp; rfl)) rfl rfl (Nat.le_of_ble_eq_true rfl) (MadeL.cons (js1 := []) (c := [.int .u8 (a0.f0 % 256)]) rfl (made_flat (fun _ => rfl)) MadeL.nil (by decide)) ?_; clear HS; (try clear F); intro v203001 w203001 HS; obtain ⟨B203001, d203001, rfl, m203001⟩ := HS.formn 1 1 rfl rfl
          (try simp only [hpn, hpm] at HS)
          have F := HS.boxes; simp only [boxFacts, and_true] at F
          refine hK.out _ _ ⟨_, HS⟩ (fun HH => ?_)
          clear hK K
          refine norm_ (a' := ?_) ?_ ?_
          rotate_left
          · show Act.put _ (some 29) _ = _; simp only [Act.put, List.setIfInBounds_toArray, List.set_cons_zero, List.set_cons_succ, i64_w, i32_w]; rfl
          refine dr_one 4 HT rfl (by kernel_rfl) (by decide) (fun K hK => ?_)
          refine if_wp (by rfl) ?_; refine wp_run (run_str rfl rfl Tryd.underlying73 Tryd.underlying5 Tryd.underlying9 (HS.rd 1 rfl)) ?_
          (try simp only [hpn, hpm] at HS)
          have F := HS.boxes; simp only [boxFacts, and_true] at F
          refine hK.out _ _ ⟨_, HS⟩ (fun HH => ?_)
          clear hK K
          refine norm_ (a' := ?_) ?_ ?_
          rotate_left
          · show Act.put _ (some 30) _ = _; simp only [Act.put, List.setIfInBounds_toArray, List.set_cons_zero, List.set_cons_succ, i64_w, i32_w]; rfl
          refine dr_pure 8 (some 34) HT (v := .string ((strOfNums ([(a0.f0 % 256)] : List Int)) ++ t207001)) (a' := ?_) rfl rfl (by kernel_rfl) (fun _ _ _ h => h) (.inl ⟨by rfl, fun w' => (run_cat rfl rfl rfl (of_eq_true c208001))⟩) ?_ ?_
          rotate_left
          · simp only [Act.put, List.setIfInBounds_toArray, List.set_cons_zero, List.set_cons_succ, i64_w, i32_w]; rfl
          refine dr_pure 10 (some 36) HT (v := .string (((strOfNums ([(a0.f0 % 256)] : List Int)) ++ t207001) ++ a0.f1)) (a' := ?_) rfl rfl (by kernel_rfl) (fun _ _ _ h => h) (.inl ⟨by rfl, fun w' => (run_cat rfl rfl rfl (of_eq_true c210001))⟩) ?_ ?_
          rotate_left
          · simp only [Act.put, List.setIfInBounds_toArray, List.set_cons_zero, List.set_cons_succ, i64_w, i32_w]; rfl
          refine drq_of [(11, some 2)] ?_
          repeat (first | (refine drq_pure HT (v := ?_) (a' := ?_) rfl rfl (by kernel_rfl) (fun _ _ _ h => h) (.inl ⟨by rfl, ?_⟩) ?_ ?_; rotate_left; (intro w'; go_simp; with_reducible rfl); rotate_left; (simp only [Act.put, List.setIfInBounds_toArray, List.set_cons_zero, List.set_cons_succ, i64_w, i32_w]; rfl)))
          refine drq_end ?_
          refine norm_ ?_ (hJ (.slice B203001 1 d203001) _ (HS.arr [some 0, some 1] (by decide)))
          simp only [putAll, Act.put, List.setIfInBounds_toArray, List.set_cons_zero, List.set_cons_succ, i64_w, i32_w]
          (try rfl)
      rintro v203001 w299999 HS
      obtain ⟨B203001, d203001, rfl, m203001⟩ := HS.formn 1 1 rfl (by first | rfl | simp)
      have F := HS.boxes; simp only [boxFacts, and_true] at F
      refine norm_ (a' := ?_) ?_ ?_
      rotate_left
      · simp only [putAll, Act.put, List.setIfInBounds_toArray, List.set_cons_zero, List.set_cons_succ, i64_w, i32_w]; rfl
      refine done_ (done_of HT.out (by kernel_rfl)) ?_
      obtain rfl := zsome H
      go_wp2
      go_ret
      exact ⟨rfl, HS.pick [] (by decide) (by rfl)⟩
theorem impl_itemText.calls {k : Nat} {a0 : S65} {Ap0 : Option Addr} {np0 cp0 : Nat} {r : ByteArray} {w : World} (h : impl_itemText.f k a0 = some r) (gp0 : k65.C w Ap0 np0 a0.f2) (lp0 : np0 ≤ cp0) :
    Calls Tryd.prog 86 #[.agg #[.int .i64 a0.f0, .string a0.f1, .slice Ap0 np0 cp0]] w (fun e w' => e = .returned (.string r) ∧ Hp noFP w w' []) := impl_itemText.calls_ k (Nat.le_refl k) h gp0 lp0
/-! ### impl_ItemText: function 41 -/
def impl_ItemText.f (k : Nat) (a0 : S65) : Option (ByteArray × Bool) := ((impl_ItemOk.f k a0).bind fun t3 => (if t3 = true then ((impl_itemText.f k a0).bind fun t6 => (if 4000 < (t6.size : Int) then (some ((⟨#[]⟩ : ByteArray), false)) else (some (t6, true)))) else (some ((⟨#[]⟩ : ByteArray), false))))
set_option maxHeartbeats 16000000 in
theorem impl_ItemText.calls {k : Nat} {a0 : S65} {Ap0 : Option Addr} {np0 cp0 : Nat} {r1 : ByteArray} {r2 : Bool} {w : World} (h : impl_ItemText.f k a0 = some (r1, r2)) (gp0 : k65.C w Ap0 np0 a0.f2) (lp0 : np0 ≤ cp0) :
    Calls Tryd.prog 41 #[.agg #[.int .i64 a0.f0, .string a0.f1, .slice Ap0 np0 cp0]] w (fun e w' => e = .returned (.tuple #[.string r1, .bool r2]) ∧ Hp noFP w w' []) := by
 obtain rfl := C_len gp0
 have HS := Hp.start w
 have H := Aside0.mk h
 clear h
 unfold impl_ItemText.f at H
 go_enter Tryd.func41, Tryd.ntmps41
 replace H := zbind H; obtain ⟨t3, ht3, H⟩ := H
 go_upto_if 7 with (first | ((with_reducible refine gate_dst (N := 1) rfl ?_); refine ev_box rfl HS (by first | (go_simp; done) | (go_simp; rfl)) rfl ?_; clear HS; (try clear F); intro g1 w1 HS; (try simp only [hpn, hpm] at HS); have F := HS.boxes; simp only [boxFacts, and_true] at F) | ((with_reducible refine gate_dst (N := 6) rfl ?_); refine ev_call rfl Tryd.func85 (by kernel_rfl) rfl #[.agg #[.int .i64 a0.f0, .string a0.f1, .slice Ap0 a0.f2.length cp0]] rfl (by simp only [List.map_toArray, List.map_cons, List.map_nil]; rfl) ?_; refine (impl_ItemOk.calls ht3.out (HS.ro gp0) lp0).mono ?_; rintro _ wt3 ⟨rfl, HQ⟩; refine ⟨_, rfl, ?_⟩; replace HS := HS.call HQ; clear HQ; (try clear F); (try simp only [hpn, hpm] at HS); have F := HS.boxes; simp only [boxFacts, and_true] at F))
 by_cases c5 : t3 = true
 · replace H := zpos c5 H
   subst c5
   (try simp only [dcn, if_true, Bool.false_eq_true, if_false])
   replace H := zbind H; obtain ⟨t6, ht6, H⟩ := H
   go_upto_if 12 with (first | ((with_reducible refine gate_dst (N := 9) rfl ?_); refine ev_call rfl Tryd.func86 (by kernel_rfl) rfl #[.agg #[.int .i64 a0.f0, .string a0.f1, .slice Ap0 a0.f2.length cp0]] rfl (by simp only [List.map_toArray, List.map_cons, List.map_nil]; rfl) ?_; refine (impl_itemText.calls ht6.out (HS.ro gp0) lp0).mono ?_; rintro _ wt6 ⟨rfl, HQ⟩; refine ⟨_, rfl, ?_⟩; replace HS := HS.call HQ; clear HQ; (try clear F); (try simp only [hpn, hpm] at HS); have F := HS.boxes; simp only [boxFacts, and_true] at F))
   by_cases c8 : 4000 < (t6.size : Int)
   · replace H := zpos c8 H
     replace c8 := eq_true c8
     (try simp only [c8, dcn])
     obtain ⟨rfl, rfl⟩ := zsome2 H
     go_wp2
     exact bodyPost_ret (results_list (rs := [.tmp 2, .tmp 3]) rfl (by simp) (.tmp (.tmp .nil))) rfl ⟨rfl, HS.pick [] (by decide) (by rfl)⟩
   · replace H := zneg c8 H
     replace c8 := eq_false c8
     (try simp only [c8, dcn])
     obtain ⟨rfl, rfl⟩ := zsome2 H
     go_wp2
     exact bodyPost_ret (results_list (rs := [.tmp 2, .tmp 3]) rfl (by simp) (.tmp (.tmp .nil))) rfl ⟨rfl, HS.pick [] (by decide) (by rfl)⟩
 · replace H := zneg c5 H
   replace c5 := eq_false_of_ne_true c5
   subst c5
   (try simp only [dcn, if_true, Bool.false_eq_true, if_false])
   obtain ⟨rfl, rfl⟩ := zsome2 H
   go_wp2
   exact bodyPost_ret (results_list (rs := [.tmp 2, .tmp 3]) rfl (by simp) (.tmp (.tmp .nil))) rfl ⟨rfl, HS.pick [] (by decide) (by rfl)⟩
/-! ### impl_readLength: function 109 -/
def impl_readLength.l0 : Nat → Int → Int → ByteArray → ByteArray → Option (Int × ByteArray × Bool)
  | 0, _, _, _, _ => none
  | k + 1, x28, x29, a0, y15 => (if x29 < (y15.size : Int) then (if 0 ≤ x29 then (if x29 < (y15.size : Int) then (impl_readLength.l0 k (Go.bits .or .i64 (wrap64 (x28 * 256)) (wrap64 (rd (bytesOf y15) x29))) (wrap64 (x29 + 1)) a0 y15) else none) else none) else (if 0 ≤ (wrap64 (1 + (wrap64 ((wrap64 (bt a0 0)) - 128)))) then (some (x28, (a0.extract ((wrap64 (1 + (wrap64 ((wrap64 (bt a0 0)) - 128))))).toNat a0.size), true)) else none))
def impl_readLength.f (k : Nat) (a0 : ByteArray) : Option (Int × ByteArray × Bool) := (if a0.toList = ([] : List UInt8) then (some (0, (⟨#[]⟩ : ByteArray), false)) else (if 0 < (a0.size : Int) then (if (bt a0 0) < 128 then (if 1 ≤ (a0.size : Int) then (some ((wrap64 (bt a0 0)), (a0.extract 1 a0.size), true)) else none) else (if 4 < (wrap64 ((wrap64 (bt a0 0)) - 128)) then (some (0, (⟨#[]⟩ : ByteArray), false)) else (if (a0.size : Int) < (wrap64 (1 + (wrap64 ((wrap64 (bt a0 0)) - 128)))) then (some (0, (⟨#[]⟩ : ByteArray), false)) else (if 1 ≤ (wrap64 (1 + (wrap64 ((wrap64 (bt a0 0)) - 128)))) then (if (wrap64 (1 + (wrap64 ((wrap64 (bt a0 0)) - 128)))) ≤ (a0.size : Int) then (lets (a0.extract 1 ((wrap64 (1 + (wrap64 ((wrap64 (bt a0 0)) - 128))))).toNat) fun y15 => (if y15.size ≤ 9223372036854775807 then (impl_readLength.l0 k 0 0 a0 y15) else none)) else none) else none)))) else none))
def impl_readLength.T4 : Bool × List (List Nat × List Nat) := (true, [([], []), ([0], [0]), ([1], [1]), ([], []), ([3], [3]), ([2, 0, 1, 2], [2]), ([4, 5, 0, 1, 2, 3, 4, 5], [4]), ([6, 0, 1, 2, 3, 4, 5, 6], [])])
theorem impl_readLength.tT4 : rtab .any (opsOf Tryd.f109 4) = impl_readLength.T4 := by kernel_rfl
def impl_readLength.T14 : Bool × List (List Nat × List Nat) := (true, [([], []), ([], []), ([], []), ([2], [2]), ([1, 3], [1, 3]), ([0, 0], [0]), ([4, 5, 0, 1, 2, 3, 4, 5], [4]), ([6, 0, 1, 2, 3, 4, 5, 6], [])])
theorem impl_readLength.tT14 : rtab .any (opsOf Tryd.f109 14) = impl_readLength.T14 := by kernel_rfl
set_option maxHeartbeats 16000000 in
theorem impl_readLength.calls {k : Nat} {a0 : ByteArray} {r1 : Int} {r2 : ByteArray} {r3 : Bool} {w : World} (h : impl_readLength.f k a0 = some (r1, r2, r3)) :
    Calls Tryd.prog 109 #[.string a0] w (fun e w' => e = .returned (.tuple #[.int .i64 r1, .string r2, .bool r3]) ∧ Hp noFP w w' []) := by
 have HS := Hp.start w
 have H := Aside0.mk h
 clear h
 unfold impl_readLength.f at H
 go_enter Tryd.func109, Tryd.ntmps109
 by_cases c1 : a0.toList = ([] : List UInt8)
 · replace H := zpos c1 H
   have c1a := beq_iff_eq.mpr c1
   have c1b := bne_eq_false_iff_eq.mpr c1
   have c1e := List.isEmpty_iff.mpr c1
   clear c1
   obtain ⟨rfl, rfl, rfl⟩ := zsome3 H
   go_wp2
   exact bodyPost_ret (results_list (rs := [.tmp 2, .tmp 3, .tmp 4]) rfl (by simp) (.tmp (.tmp (.tmp .nil)))) rfl ⟨rfl, HS.pick [] (by decide) (by rfl)⟩
 · replace H := zneg c1 H
   have c1a := beq_eq_false_iff_ne.mpr c1
   have c1b := bne_iff_ne.mpr c1
   have c1e := List.isEmpty_eq_false_iff.mpr c1
   clear c1
   by_cases c2 : 0 < (a0.size : Int)
   case neg => exact zno c2 H
   replace H := zpos c2 H
   replace c2 := eq_true c2
   have c2n : (0 < a0.size) = True := eq_true (by have := of_eq_true c2; omega)
   have hx3 : ∀ h : 0 < a0.size, ((a0[0]'h).toNat : Int) = bt a0 0 := bt_at a0 0
   have hz4 : 0 < a0.size := (by have := of_eq_true c2; omega)
   by_cases c5 : (bt a0 0) < 128
   · replace H := zpos c5 H
     replace c5 := eq_true c5
     (try go_wp2)
     have hx101001 : ∀ h : 0 < a0.size, ((a0[0]'h).toNat : Int) = bt a0 0 := bt_at a0 0
     have hz101002 : 0 < a0.size := (by have := of_eq_true c2; omega)
     by_cases c104001 : 1 ≤ (a0.size : Int)
     case neg => exact zno c104001 H
     replace H := zpos c104001 H
     replace c104001 := eq_true c104001
     refine dr_start [] HS #[false, false, false, false, false, false, false, false] (by kernel_rfl) rfl rfl impl_readLength.tT4 (fun w7 HT HS HH => ?_)
     (try clear F)
     refine drq_of [(0, some 14), (1, some 15), (2, some 16), (3, some 17)] ?_
     repeat (first | (refine drq_pure HT (v := ?_) (a' := ?_) rfl rfl (by kernel_rfl) (fun _ _ _ h => h) (.inl ⟨by rfl, ?_⟩) ?_ ?_; rotate_left; (intro w'; go_simp; with_reducible rfl); rotate_left; (simp only [Act.put, List.setIfInBounds_toArray, List.set_cons_zero, List.set_cons_succ, i64_w, i32_w]; rfl)))
     refine drq_end ?_
     refine dr_pure 4 (some 18) HT (v := .string (a0.extract 1 a0.size)) (a' := ?_) rfl rfl (by kernel_rfl) (fun _ _ _ h => h) (.inl ⟨by rfl, fun w' => (run_cut rfl rfl Tryd.underlying9 (.inr ⟨_, _, rfl, rfl, of_eq_true (eq_true (by decide : (0:Int) ≤ 1))⟩) (.inl ⟨rfl, rfl⟩) (by have := of_eq_true (eq_true (by decide : (0:Int) ≤ 1)); have := of_eq_true c104001; have := of_eq_true (eq_true (Int.le_refl (a0.size : Int))); omega) (by have := of_eq_true (eq_true (by decide : (0:Int) ≤ 1)); have := of_eq_true c104001; have := of_eq_true (eq_true (Int.le_refl (a0.size : Int))); omega))⟩) ?_ ?_
     rotate_left
     · simp only [Act.put, List.setIfInBounds_toArray, List.set_cons_zero, List.set_cons_succ, i64_w, i32_w]; rfl
     refine drq_of [(5, some 2), (6, some 3), (7, some 4)] ?_
     repeat (first | (refine drq_pure HT (v := ?_) (a' := ?_) rfl rfl (by kernel_rfl) (fun _ _ _ h => h) (.inl ⟨by rfl, ?_⟩) ?_ ?_; rotate_left; (intro w'; go_simp; with_reducible rfl); rotate_left; (simp only [Act.put, List.setIfInBounds_toArray, List.set_cons_zero, List.set_cons_succ, i64_w, i32_w]; rfl)))
     refine drq_end ?_
     refine done_ (done_of HT.out (by kernel_rfl)) ?_
     obtain ⟨rfl, rfl, rfl⟩ := zsome3 H
     go_wp2
     exact bodyPost_ret (results_list (rs := [.tmp 2, .tmp 3, .tmp 4]) rfl (by simp) (.tmp (.tmp (.tmp .nil)))) rfl ⟨rfl, HS.pick [] (by decide) (by rfl)⟩
   · replace H := zneg c5 H
     replace c5 := eq_false c5
     have hx9 : ∀ h : 0 < a0.size, ((a0[0]'h).toNat : Int) = bt a0 0 := bt_at a0 0
     have hz10 : 0 < a0.size := (by have := of_eq_true c2; omega)
     by_cases c11 : 4 < (wrap64 ((wrap64 (bt a0 0)) - 128))
     · replace H := zpos c11 H
       replace c11 := eq_true c11
       obtain ⟨rfl, rfl, rfl⟩ := zsome3 H
       go_wp2
       exact bodyPost_ret (results_list (rs := [.tmp 2, .tmp 3, .tmp 4]) rfl (by simp) (.tmp (.tmp (.tmp .nil)))) rfl ⟨rfl, HS.pick [] (by decide) (by rfl)⟩
     · replace H := zneg c11 H
       replace c11 := eq_false c11
       by_cases c12 : (a0.size : Int) < (wrap64 (1 + (wrap64 ((wrap64 (bt a0 0)) - 128))))
       · replace H := zpos c12 H
         replace c12 := eq_true c12
         obtain ⟨rfl, rfl, rfl⟩ := zsome3 H
         go_wp2
         exact bodyPost_ret (results_list (rs := [.tmp 2, .tmp 3, .tmp 4]) rfl (by simp) (.tmp (.tmp (.tmp .nil)))) rfl ⟨rfl, HS.pick [] (by decide) (by rfl)⟩
       · replace H := zneg c12 H
         replace c12 := eq_false c12
         by_cases c13 : 1 ≤ (wrap64 (1 + (wrap64 ((wrap64 (bt a0 0)) - 128))))
         case neg => exact zno c13 H
         replace H := zpos c13 H
         replace c13 := eq_true c13
         by_cases c14 : (wrap64 (1 + (wrap64 ((wrap64 (bt a0 0)) - 128)))) ≤ (a0.size : Int)
         case neg => exact zno c14 H
         replace H := zpos c14 H
         replace c14 := eq_true c14
         replace H := zlets H; obtain ⟨y15, e_y15, H⟩ := H
         by_cases c16 : y15.size ≤ 9223372036854775807
         case neg => exact zno c16 H
         replace H := zpos c16 H
         replace c16 := eq_true c16
         go_wp2_with (first | ((with_reducible refine gate_dst (N := 35) rfl ?_); refine ev_val rfl (run_cut rfl rfl Tryd.underlying9 (.inr ⟨_, _, rfl, rfl, of_eq_true (eq_true (by decide : (0:Int) ≤ 1))⟩) (.inr ⟨_, _, rfl, rfl, by have := of_eq_true (eq_true (by decide : (0:Int) ≤ 1)); have := of_eq_true c13; have := of_eq_true c14; omega⟩) (by have := of_eq_true (eq_true (by decide : (0:Int) ≤ 1)); have := of_eq_true c13; have := of_eq_true c14; omega) (by have := of_eq_true (eq_true (by decide : (0:Int) ≤ 1)); have := of_eq_true c13; have := of_eq_true c14; omega)) ?_) | ((with_reducible refine gate_dst (N := 36) rfl ?_); refine ev_bytes rfl HS rfl (s := y15) (by rw [e_y15.out]; rfl) Tryd.underlying9 Tryd.underlying73 Tryd.underlying5 (of_eq_true c16) ?_; clear HS; (try clear F); intro v15 w15 HS; obtain ⟨B15, d15, rfl, m15⟩ := HS.vformb 0 rfl; (try simp only [hpn, hpm] at HS)))
         go_loopg [6, 38] k (fun kq v_6 v_38 w' => ∃ (x28 : Int) (x29 : Int), v_6 = .int .i64 x28 ∧ v_38 = .int .i64 x29 ∧ Aside0 (impl_readLength.l0 kq x28 x29 a0 y15 = some (r1, r2, r3)) ∧ Aside0 (kq ≤ k) ∧ Hp noFP w w' [.own (Zd.view 5 (Zd.int .u8)) (bytesOf y15) [.slice B15 y15.size d15]])
         case atStart => exact ⟨_, _, rfl, rfl, H, ⟨Nat.le_refl _⟩, HS⟩
         case round =>
          clear HS H; (try clear F)
          obtain ⟨x28, x29, rfl, rfl, H, HKk27, HS⟩ := hrel
          cases gk with
          | zero => exact absurd H.out (by simp [impl_readLength.l0])
          | succ k27 =>
           simp only [impl_readLength.l0] at H
           by_cases c31 : x29 < (y15.size : Int)
           · replace H := zpos c31 H
             replace c31 := eq_true c31
             by_cases c32 : 0 ≤ x29
             case neg => exact zno c32 H
             replace H := zpos c32 H
             replace c32 := eq_true c32
             by_cases c33 : x29 < (y15.size : Int)
             case neg => exact zno c33 H
             replace H := zpos c33 H
             replace c33 := eq_true c33
             obtain ⟨ad34, rfl, e34_0⟩ := Kd.at_int (HS.vrd 0 rfl) x29 (of_eq_true c32) (of_eq_true c33)
             go_wp2
             go_roundg k27
             case measure => have := HKk27.out; omega
             case rel => exact ⟨_, _, rfl, rfl, H, ⟨by have := HKk27.out; omega⟩, HS.pick [0] (by decide) (by rfl)⟩
           · replace H := zneg c31 H
             replace c31 := eq_false c31
             (try go_wp2)
             by_cases c204001 : 0 ≤ (wrap64 (1 + (wrap64 ((wrap64 (bt a0 0)) - 128))))
             case neg => exact zno c204001 H
             replace H := zpos c204001 H
             replace c204001 := eq_true c204001
             refine dr_start [] HS #[false, false, false, false, false, false, false, false] (by kernel_rfl) rfl rfl impl_readLength.tT14 (fun w36 HT HS HH => ?_)
             (try clear F)
             refine drq_of [(0, some 48), (1, some 49), (2, some 50), (3, some 51)] ?_
             repeat (first | (refine drq_pure HT (v := ?_) (a' := ?_) rfl rfl (by kernel_rfl) (fun _ _ _ h => h) (.inl ⟨by rfl, ?_⟩) ?_ ?_; rotate_left; (intro w'; go_simp; with_reducible rfl); rotate_left; (simp only [Act.put, List.setIfInBounds_toArray, List.set_cons_zero, List.set_cons_succ, i64_w, i32_w]; rfl)))
             refine drq_end ?_
             refine dr_pure 4 (some 52) HT (v := .string (a0.extract ((wrap64 (1 + (wrap64 ((wrap64 (bt a0 0)) - 128))))).toNat a0.size)) (a' := ?_) rfl rfl (by kernel_rfl) (fun _ _ _ h => h) (.inl ⟨by rfl, fun w' => (run_cut rfl rfl Tryd.underlying9 (.inr ⟨_, _, rfl, rfl, of_eq_true c204001⟩) (.inl ⟨rfl, rfl⟩) (by have := of_eq_true c204001; have := of_eq_true c14; have := of_eq_true (eq_true (Int.le_refl (a0.size : Int))); omega) (by have := of_eq_true c204001; have := of_eq_true c14; have := of_eq_true (eq_true (Int.le_refl (a0.size : Int))); omega))⟩) ?_ ?_
             rotate_left
             · simp only [Act.put, List.setIfInBounds_toArray, List.set_cons_zero, List.set_cons_succ, i64_w, i32_w]; rfl
             refine drq_of [(5, some 2), (6, some 3), (7, some 4)] ?_
             repeat (first | (refine drq_pure HT (v := ?_) (a' := ?_) rfl rfl (by kernel_rfl) (fun _ _ _ h => h) (.inl ⟨by rfl, ?_⟩) ?_ ?_; rotate_left; (intro w'; go_simp; with_reducible rfl); rotate_left; (simp only [Act.put, List.setIfInBounds_toArray, List.set_cons_zero, List.set_cons_succ, i64_w, i32_w]; rfl)))
             refine drq_end ?_
             refine done_ (done_of HT.out (by kernel_rfl)) ?_
             obtain ⟨rfl, rfl, rfl⟩ := zsome3 H
             go_wp2
             exact bodyPost_ret (results_list (rs := [.tmp 2, .tmp 3, .tmp 4]) rfl (by simp) (.tmp (.tmp (.tmp .nil)))) rfl ⟨rfl, HS.pick [] (by decide) (by rfl)⟩
end Go.Proofs.YtoaoncnbimcdgaaDoor.F
