/- Functions of the program and of the law, and that their calls do what is written here. -/
import Derived.Test.YtoaoncnbimcdgaaDoorZgFnExactReadCrlh
namespace Go.Proofs.YtoaoncnbimcdgaaDoor.F
open Go.RowKit Go.Proofs.YtoaoncnbimcdgaaDoorW.PrintWords Go.Proofs.YtoaoncnbimcdgaaDoorW.PrintLast Go.Proofs.YtoaoncnbimcdgaaDoorW.PrintMore Go.Proofs.YtoaoncnbimcdgaaDoor.Z
attribute [local go_sem] max2_int min2_int max_two min_two max_three min_three max_four min_four
set_option linter.unusedVariables false
set_option linter.unusedSimpArgs false
set_option maxRecDepth 100000
/-! ### impl_readItem: function 96 -/
mutual
def impl_readItem.l0 : Nat → (List S65) → ByteArray → ByteArray → Int → Int × ByteArray × Bool → Option (S65 × ByteArray × Bool)
  | 0, _, _, _, _, _ => none
  | k + 1, l53, x55, a0, a1, t17 => (if x55.toList = ([] : List UInt8) then (some ((⟨(wrap64 (bt a0 0)), (⟨#[]⟩ : ByteArray), l53⟩ : S65), (t17.2.1.extract (t17.1).toNat t17.2.1.size), true)) else ((impl_readItem.f k x55 (wrap64 (a1 + 1))).bind fun t60 => (if t60.2.2 = true then (if l53.length + 1 ≤ 2932031007402 then (lets (l53 ++ ([t60.1] : List S65)) fun y71 => (impl_readItem.l0 k y71 t60.2.1 a0 a1 t17)) else none) else (some ((⟨0, (⟨#[]⟩ : ByteArray), ([] : List S65)⟩ : S65), (⟨#[]⟩ : ByteArray), false)))))
def impl_readItem.f : Nat → ByteArray → Int → Option (S65 × ByteArray × Bool)
  | 0, _, _ => none
  | k + 1, a0, a1 => (if a0.toList = ([] : List UInt8) then (some ((⟨0, (⟨#[]⟩ : ByteArray), ([] : List S65)⟩ : S65), (⟨#[]⟩ : ByteArray), false)) else (if 6 < a1 then (some ((⟨0, (⟨#[]⟩ : ByteArray), ([] : List S65)⟩ : S65), (⟨#[]⟩ : ByteArray), false)) else (if 0 < (a0.size : Int) then (if 1 ≤ (a0.size : Int) then ((impl_readLength.f k (a0.extract 1 a0.size)).bind fun t17 => (if t17.2.2 = true then (if (t17.2.1.size : Int) < t17.1 then (some ((⟨0, (⟨#[]⟩ : ByteArray), ([] : List S65)⟩ : S65), (⟨#[]⟩ : ByteArray), false)) else (if 0 ≤ t17.1 then (if t17.1 ≤ (t17.2.1.size : Int) then (if (wrap64 (bt a0 0)) = 48 then (impl_readItem.l0 k [] (t17.2.1.extract 0 (t17.1).toNat) a0 a1 t17) else (some ((⟨(wrap64 (bt a0 0)), (t17.2.1.extract 0 (t17.1).toNat), ([] : List S65)⟩ : S65), (t17.2.1.extract (t17.1).toNat t17.2.1.size), true))) else none) else none)) else (some ((⟨0, (⟨#[]⟩ : ByteArray), ([] : List S65)⟩ : S65), (⟨#[]⟩ : ByteArray), false)))) else none) else none)))
end
def impl_readItem.T7 : Bool × List (List Nat × List Nat) := (true, [([], []), ([], []), ([0, 1], [0, 1]), ([], []), ([], []), ([3, 4], [3, 4]), ([2, 0, 1, 2], [2]), ([5, 6, 0, 1, 2, 3, 4, 5, 6], [0, 3, 5])])
theorem impl_readItem.tT7 : rtab .any (opsOf Tryd.f96 7) = impl_readItem.T7 := by kernel_rfl
set_option maxHeartbeats 16000000 in
theorem impl_readItem.calls_ (K : Nat) : ∀ {k : Nat} (hK : k ≤ K) {a0 : ByteArray} {a1 : Int} {r1 : S65} {r2 : ByteArray} {r3 : Bool} {w : World} (h : impl_readItem.f k a0 a1 = some (r1, r2, r3)),
    Calls Tryd.prog 96 #[.string a0, .int .i64 a1] w (fun e w' => ∃ v0_ : Value, e = .returned (.tuple #[.agg #[.int .i64 r1.f0, .string r1.f1, v0_], .string r2, .bool r3]) ∧ Hp noFP w w' [.own (Zd.slice 65 q65) r1.f2 [v0_]]) := by
  induction K with
  | zero =>
    intro k hK a0 a1 r1 r2 r3 w h
    obtain rfl : k = 0 := by omega
    exact absurd h (by simp [impl_readItem.f])
  | succ K IH =>
    intro k hK a0 a1 r1 r2 r3 w h
    cases k with
    | zero => exact absurd h (by simp [impl_readItem.f])
    | succ k =>
    have HK0 : Aside0 (k ≤ K) := ⟨by omega⟩
    clear hK
    have HS := Hp.start w
    have H := Aside0.mk h
    clear h
    simp only [impl_readItem.f] at H
    go_enter Tryd.func96, Tryd.ntmps96
    by_cases c3 : a0.toList = ([] : List UInt8)
    · replace H := zpos c3 H
      have c3a := beq_iff_eq.mpr c3
      have c3b := bne_eq_false_iff_eq.mpr c3
      have c3e := List.isEmpty_iff.mpr c3
      clear c3
      obtain ⟨rfl, rfl, rfl⟩ := zsome3 H
      go_wp2_with (first | ((with_reducible refine gate_dst (N := 4) rfl ?_); refine ev_box rfl HS (by first | (go_simp; done) | (go_simp; rfl)) rfl ?_; clear HS; (try clear F); intro g4 w4 HS; (try simp only [hpn, hpm] at HS); have F := HS.boxes; simp only [boxFacts, and_true] at F) | ((with_reducible refine gate_store (p := 4) rfl ?_); refine ev_store rfl 0 0 HS (seg := [.int .i64 0, .string (⟨#[]⟩ : ByteArray), .slice none 0 0]) rfl rfl rfl rfl rfl rfl (by kernel_rfl) (by simp [wrt]) (by simp [Value.oneCell']) ?_; clear HS; (try clear F); intro w4 HS; (try simp only [hpn, hpm] at HS); have F := HS.boxes; simp only [boxFacts, and_true] at F))
      replace HS := HS.nil 65 q65
      exact bodyPost_ret (results_list (rs := [.cell 4 65, .tmp 5, .tmp 6]) rfl (by simp) (.cell _ _ _ _ _ rfl (HS.boxAt (i := 0) rfl) Tryd.underlying65 rfl (by kernel_rfl) (.tmp (.tmp .nil)))) rfl ⟨_, rfl, HS.pick [1] (by decide) (by rfl)⟩
    · replace H := zneg c3 H
      have c3a := beq_eq_false_iff_ne.mpr c3
      have c3b := bne_iff_ne.mpr c3
      have c3e := List.isEmpty_eq_false_iff.mpr c3
      clear c3
      go_upto_if 20 with (first | ((with_reducible refine gate_dst (N := 4) rfl ?_); refine ev_box rfl HS (by first | (go_simp; done) | (go_simp; rfl)) rfl ?_; clear HS; (try clear F); intro g4 w4 HS; (try simp only [hpn, hpm] at HS); have F := HS.boxes; simp only [boxFacts, and_true] at F))
      by_cases c6 : 6 < a1
      · replace H := zpos c6 H
        replace c6 := eq_true c6
        (try simp only [c6, dcn])
        obtain ⟨rfl, rfl, rfl⟩ := zsome3 H
        go_wp2_with (first | ((with_reducible refine gate_store (p := 4) rfl ?_); refine ev_store rfl 0 0 HS (seg := [.int .i64 0, .string (⟨#[]⟩ : ByteArray), .slice none 0 0]) rfl rfl rfl rfl rfl rfl (by kernel_rfl) (by simp [wrt]) (by simp [Value.oneCell']) ?_; clear HS; (try clear F); intro w7 HS; (try simp only [hpn, hpm] at HS); have F := HS.boxes; simp only [boxFacts, and_true] at F))
        replace HS := HS.nil 65 q65
        exact bodyPost_ret (results_list (rs := [.cell 4 65, .tmp 5, .tmp 6]) rfl (by simp) (.cell _ _ _ _ _ rfl (HS.boxAt (i := 0) rfl) Tryd.underlying65 rfl (by kernel_rfl) (.tmp (.tmp .nil)))) rfl ⟨_, rfl, HS.pick [1] (by decide) (by rfl)⟩
      · replace H := zneg c6 H
        replace c6 := eq_false c6
        (try simp only [c6, dcn])
        by_cases c9 : 0 < (a0.size : Int)
        case neg => exact zno c9 H
        replace H := zpos c9 H
        replace c9 := eq_true c9
        have c9n : (0 < a0.size) = True := eq_true (by have := of_eq_true c9; omega)
        have hx10 : ∀ h : 0 < a0.size, ((a0[0]'h).toNat : Int) = bt a0 0 := bt_at a0 0
        have hz11 : 0 < a0.size := (by have := of_eq_true c9; omega)
        by_cases c16 : 1 ≤ (a0.size : Int)
        case neg => exact zno c16 H
        replace H := zpos c16 H
        replace c16 := eq_true c16
        replace H := zbind H; obtain ⟨t17, ht17, H⟩ := H
        by_cases c19 : t17.2.2 = true
        · replace H := zpos c19 H
          go_upto_if 40 with (first | ((with_reducible refine gate_dst (N := 7) rfl ?_); refine ev_box rfl HS (by first | (go_simp; done) | (go_simp; rfl)) rfl ?_; clear HS; (try clear F); intro g7 w7 HS; (try simp only [hpn, hpm] at HS); have F := HS.boxes; simp only [boxFacts, and_true] at F) | ((with_reducible refine gate_store (p := 7) rfl ?_); refine ev_store rfl 1 0 HS (seg := [.int .i64 (wrap64 (bt a0 0)), .string (⟨#[]⟩ : ByteArray), .slice none 0 0]) rfl rfl rfl rfl rfl rfl (by kernel_rfl) (by simp [wrt]) (by simp [Value.oneCell']) ?_; clear HS; (try clear F); intro w14 HS; (try simp only [hpn, hpm] at HS); have F := HS.boxes; simp only [boxFacts, and_true] at F) | ((with_reducible refine gate_dst (N := 28) rfl ?_); refine ev_val rfl (run_cut rfl rfl Tryd.underlying9 (.inr ⟨_, _, rfl, rfl, of_eq_true (eq_true (by decide : (0:Int) ≤ 1))⟩) (.inl ⟨rfl, rfl⟩) (by have := of_eq_true (eq_true (by decide : (0:Int) ≤ 1)); have := of_eq_true c16; have := of_eq_true (eq_true (Int.le_refl (a0.size : Int))); omega) (by have := of_eq_true (eq_true (by decide : (0:Int) ≤ 1)); have := of_eq_true c16; have := of_eq_true (eq_true (Int.le_refl (a0.size : Int))); omega)) ?_) | ((with_reducible refine gate_dst (N := 29) rfl ?_); refine ev_call rfl Tryd.func109 (by kernel_rfl) rfl #[.string (a0.extract 1 a0.size)] rfl (by simp only [List.map_toArray, List.map_cons, List.map_nil]; rfl) ?_; refine (impl_readLength.calls ht17.out).mono ?_; rintro _ wt17 ⟨rfl, HQ⟩; refine ⟨_, rfl, ?_⟩; replace HS := HS.call HQ; clear HQ; (try clear F); (try simp only [hpn, hpm] at HS); have F := HS.boxes; simp only [boxFacts, and_true] at F; (try simp only [c19])))
          by_cases c20 : (t17.2.1.size : Int) < t17.1
          · replace H := zpos c20 H
            replace c20 := eq_true c20
            (try simp only [c20, dcn])
            obtain ⟨rfl, rfl, rfl⟩ := zsome3 H
            go_wp2_with (first | ((with_reducible refine gate_store (p := 4) rfl ?_); refine ev_store rfl 0 0 HS (seg := [.int .i64 0, .string (⟨#[]⟩ : ByteArray), .slice none 0 0]) rfl rfl rfl rfl rfl rfl (by kernel_rfl) (by simp [wrt]) (by simp [Value.oneCell']) ?_; clear HS; (try clear F); intro w21 HS; (try simp only [hpn, hpm] at HS); have F := HS.boxes; simp only [boxFacts, and_true] at F))
            replace HS := HS.nil 65 q65
            exact bodyPost_ret (results_list (rs := [.cell 4 65, .tmp 5, .tmp 6]) rfl (by simp) (.cell _ _ _ _ _ rfl (HS.boxAt (i := 0) rfl) Tryd.underlying65 rfl (by kernel_rfl) (.tmp (.tmp .nil)))) rfl ⟨_, rfl, HS.pick [2] (by decide) (by rfl)⟩
          · replace H := zneg c20 H
            replace c20 := eq_false c20
            (try simp only [c20, dcn])
            (try go_wp2)
            by_cases c102001 : 0 ≤ t17.1
            case neg => exact zno c102001 H
            replace H := zpos c102001 H
            replace c102001 := eq_true c102001
            by_cases c102002 : t17.1 ≤ (t17.2.1.size : Int)
            case neg => exact zno c102002 H
            replace H := zpos c102002 H
            replace c102002 := eq_true c102002
            refine dr_start [] HS #[false, false, false, false, false, false, false, false] (by kernel_rfl) rfl rfl impl_readItem.tT7 (fun w24 HT HS HH => ?_)
            (try clear F)
            refine drq_of [(0, some 42), (1, some 43)] ?_
            repeat (first | (refine drq_pure HT (v := ?_) (a' := ?_) rfl rfl (by kernel_rfl) (fun _ _ _ h => h) (.inl ⟨by rfl, ?_⟩) ?_ ?_; rotate_left; (intro w'; go_simp; with_reducible rfl); rotate_left; (simp only [Act.put, List.setIfInBounds_toArray, List.set_cons_zero, List.set_cons_succ, i64_w, i32_w]; rfl)))
            refine drq_end ?_
            refine dr_pure 2 (some 44) HT (v := .string (t17.2.1.extract 0 (t17.1).toNat)) (a' := ?_) rfl rfl (by kernel_rfl) (fun _ _ _ h => h) (.inl ⟨by rfl, fun w' => (run_cut rfl rfl Tryd.underlying9 (.inl ⟨rfl, rfl⟩) (.inr ⟨_, _, rfl, rfl, by have := of_eq_true (eq_true (by decide : (0:Int) ≤ 0)); have := of_eq_true c102001; have := of_eq_true c102002; omega⟩) (by have := of_eq_true (eq_true (by decide : (0:Int) ≤ 0)); have := of_eq_true c102001; have := of_eq_true c102002; omega) (by have := of_eq_true (eq_true (by decide : (0:Int) ≤ 0)); have := of_eq_true c102001; have := of_eq_true c102002; omega))⟩) ?_ ?_
            rotate_left
            · simp only [Act.put, List.setIfInBounds_toArray, List.set_cons_zero, List.set_cons_succ, i64_w, i32_w]; rfl
            refine drq_of [(3, some 45), (4, some 46)] ?_
            repeat (first | (refine drq_pure HT (v := ?_) (a' := ?_) rfl rfl (by kernel_rfl) (fun _ _ _ h => h) (.inl ⟨by rfl, ?_⟩) ?_ ?_; rotate_left; (intro w'; go_simp; with_reducible rfl); rotate_left; (simp only [Act.put, List.setIfInBounds_toArray, List.set_cons_zero, List.set_cons_succ, i64_w, i32_w]; rfl)))
            refine drq_end ?_
            refine dr_pure 5 (some 47) HT (v := .string (t17.2.1.extract (t17.1).toNat t17.2.1.size)) (a' := ?_) rfl rfl (by kernel_rfl) (fun _ _ _ h => h) (.inl ⟨by rfl, fun w' => (run_cut rfl rfl Tryd.underlying9 (.inr ⟨_, _, rfl, rfl, of_eq_true c102001⟩) (.inl ⟨rfl, rfl⟩) (by have := of_eq_true c102001; have := of_eq_true c102002; have := of_eq_true (eq_true (Int.le_refl (t17.2.1.size : Int))); omega) (by have := of_eq_true c102001; have := of_eq_true c102002; have := of_eq_true (eq_true (Int.le_refl (t17.2.1.size : Int))); omega))⟩) ?_ ?_
            rotate_left
            · simp only [Act.put, List.setIfInBounds_toArray, List.set_cons_zero, List.set_cons_succ, i64_w, i32_w]; rfl
            refine drq_of [(6, some 11), (7, some 9)] ?_
            repeat (first | (refine drq_pure HT (v := ?_) (a' := ?_) rfl rfl (by kernel_rfl) (fun _ _ _ h => h) (.inl ⟨by rfl, ?_⟩) ?_ ?_; rotate_left; (intro w'; go_simp; with_reducible rfl); rotate_left; (simp only [Act.put, List.setIfInBounds_toArray, List.set_cons_zero, List.set_cons_succ, i64_w, i32_w]; rfl)))
            refine drq_end ?_
            refine done_ (done_of HT.out (by kernel_rfl)) ?_
            (try clear F)
            have F := HS.boxes; simp only [boxFacts, and_true] at F
            by_cases c26 : (wrap64 (bt a0 0)) = 48
            · replace H := zpos c26 H
              have c26a := beq_iff_eq.mpr c26
              have c26b := bne_eq_false_iff_eq.mpr c26
              clear c26
              (try simp only [c26a, c26b, dcn])
              go_wp2
              replace HS := HS.nil 65 q65
              go_loopg [11] k (fun kq v_11 w' => ∃ (l53 : List S65) (v54 : Value) (x55 : ByteArray), v_11 = .string x55 ∧ Aside0 (impl_readItem.l0 kq l53 x55 a0 a1 t17 = some (r1, r2, r3)) ∧ Aside0 (kq ≤ k) ∧ Hp noFP w w' [.box g4 [.int .i64 0, .string (⟨#[]⟩ : ByteArray), .slice none 0 0] 65, .box g7 [.int .i64 (wrap64 (bt a0 0)), .string (⟨#[]⟩ : ByteArray), v54] 65, .own (Zd.slice 65 q65) l53 [v54]])
              case atStart => exact ⟨_, _, _, rfl, H, ⟨Nat.le_refl _⟩, HS⟩
              case round =>
               clear HS H; (try clear F)
               obtain ⟨l53, v54, x55, rfl, H, HKk52, HS⟩ := hrel
               obtain ⟨B54, d54, rfl, m54⟩ := HS.form 2 rfl
               have F := HS.boxes; simp only [boxFacts, and_true] at F
               cases gk with
               | zero => exact absurd H.out (by simp [impl_readItem.l0])
               | succ k52 =>
                simp only [impl_readItem.l0] at H
                by_cases c57 : x55.toList = ([] : List UInt8)
                · replace H := zpos c57 H
                  have c57a := beq_iff_eq.mpr c57
                  have c57b := bne_eq_false_iff_eq.mpr c57
                  have c57e := List.isEmpty_iff.mpr c57
                  clear c57
                  obtain ⟨rfl, rfl, rfl⟩ := zsome3 H
                  go_wp2_with (first | ((with_reducible refine gate_store (p := 4) rfl ?_); refine ev_store rfl 0 0 HS (seg := [.int .i64 (wrap64 (bt a0 0)), .string (⟨#[]⟩ : ByteArray), .slice B54 l53.length d54]) rfl rfl rfl rfl rfl rfl (by kernel_rfl) (by simp [wrt]) (by simp [Value.oneCell']) ?_; clear HS; (try clear F); intro w58 HS; (try simp only [hpn, hpm] at HS); have F := HS.boxes; simp only [boxFacts, and_true] at F))
                  exact bodyPost_ret (results_list (rs := [.cell 4 65, .tmp 5, .tmp 6]) rfl (by simp) (.cell _ _ _ _ _ rfl (HS.boxAt (i := 0) rfl) Tryd.underlying65 rfl (by kernel_rfl) (.tmp (.tmp .nil)))) rfl ⟨_, rfl, HS.pick [2] (by decide) (by rfl)⟩
                · replace H := zneg c57 H
                  have c57a := beq_eq_false_iff_ne.mpr c57
                  have c57b := bne_iff_ne.mpr c57
                  have c57e := List.isEmpty_eq_false_iff.mpr c57
                  clear c57
                  replace H := zbind H; obtain ⟨t60, ht60, H⟩ := H
                  go_upto_if 66 with (first | ((with_reducible refine gate_dst (N := 61) rfl ?_); refine ev_call rfl Tryd.func96 (by kernel_rfl) rfl #[.string x55, .int .i64 (wrap64 (a1 + 1))] rfl (by simp only [List.map_toArray, List.map_cons, List.map_nil]; rfl) ?_; refine (IH (by have := HK0.out; have := HKk52.out; omega) ht60.out).mono ?_; rintro _ wt60 ⟨v61, rfl, HQ⟩; refine ⟨_, rfl, ?_⟩; replace HS := HS.call HQ; clear HQ; (try clear F); obtain ⟨B61, d61, rfl, m61⟩ := HS.form 3 rfl; (try simp only [hpn, hpm] at HS); have F := HS.boxes; simp only [boxFacts, and_true] at F) | ((with_reducible refine gate_dst (N := 12) rfl ?_); refine ev_box rfl HS (by first | (go_simp; done) | (go_simp; rfl)) rfl ?_; clear HS; (try clear F); intro g12 w12 HS; (try simp only [hpn, hpm] at HS); have F := HS.boxes; simp only [boxFacts, and_true] at F) | ((with_reducible refine gate_store (p := 12) rfl ?_); refine ev_store rfl 4 0 HS (seg := [.int .i64 t60.1.f0, .string t60.1.f1, .slice B61 t60.1.f2.length d61]) rfl rfl rfl rfl rfl rfl (by kernel_rfl) (by simp [wrt]) (by simp [Value.oneCell']) ?_; clear HS; (try clear F); intro w65 HS; (try simp only [hpn, hpm] at HS); have F := HS.boxes; simp only [boxFacts, and_true] at F))
                  by_cases c67 : t60.2.2 = true
                  · replace H := zpos c67 H
                    (try simp only [c67, dcn])
                    by_cases c70 : l53.length + 1 ≤ 2932031007402
                    case neg => exact zno c70 H
                    replace H := zpos c70 H
                    replace c70 := eq_true c70
                    replace H := zlets H; obtain ⟨y71, e_y71, H⟩ := H
                    go_wp2_with (first | ((with_reducible refine gate_dst (N := 71) rfl ?_); refine ev_lit rfl q65 [3] ([t60.1] : List S65) ([.int .i64 t60.1.f0, .string t60.1.f1, .slice B61 t60.1.f2.length d61] ++ []) HS (by first | (go_simp; done) | (go_simp; rfl)) rfl rfl (Nat.le_of_ble_eq_true rfl) (MadeL.cons (js1 := [3]) (c := [.int .i64 t60.1.f0, .string t60.1.f1, .slice B61 t60.1.f2.length d61]) rfl (fun S hd hh => q65_pack (x := t60.1) hd (hh 3 (.own (Zd.slice 65 q65) t60.1.f2 [.slice B61 t60.1.f2.length d61]) rfl) (by decide)) MadeL.nil (by decide)) ?_; clear HS; (try clear F); intro v68 w68 HS; obtain ⟨B68, d68, rfl, m68⟩ := HS.formn 1 5 rfl rfl; (try simp only [hpn, hpm] at HS); have F := HS.boxes; simp only [boxFacts, and_true] at F) | ((with_reducible refine gate_dst (N := 72) rfl ?_); refine ev_append rfl q65 2 5 HS rfl rfl (by decide) rfl rfl rfl Tryd.underlying63 info65 rfl (by decide) (by decide) (by have := of_eq_true c70; first | omega | (simp only [List.length_cons, List.length_nil, List.length_append, Nat.zero_add] at this ⊢; omega)) ?_; clear HS; (try clear F); intro v71 w71 HS; rw [← e_y71.out] at HS; obtain ⟨B71, d71, rfl, m71⟩ := HS.form 6 rfl; (try simp only [hpn, hpm] at HS); have F := HS.boxes; simp only [boxFacts, and_true] at F) | ((with_reducible refine gate_store (p := 73) rfl ?_); refine ev_store rfl 1 2 HS (seg := [.slice B71 y71.length d71]) rfl rfl rfl rfl rfl rfl (by kernel_rfl) (by simp [wrt]) (by simp [Value.oneCell']) ?_; clear HS; (try clear F); intro w73 HS; (try simp only [hpn, hpm] at HS); have F := HS.boxes; simp only [boxFacts, and_true] at F))
                    go_roundg k52
                    case measure => have := HK0.out; have := HKk52.out; omega
                    case rel => exact ⟨_, _, _, rfl, H, ⟨by have := HK0.out; have := HKk52.out; omega⟩, HS.pick [0, 1, 6] (by decide) (by rfl)⟩
                  · replace H := zneg c67 H
                    replace c67 := eq_false_of_ne_true c67
                    (try simp only [c67, dcn])
                    obtain ⟨rfl, rfl, rfl⟩ := zsome3 H
                    go_wp2_with (first | ((with_reducible refine gate_store (p := 4) rfl ?_); refine ev_store rfl 0 0 HS (seg := [.int .i64 0, .string (⟨#[]⟩ : ByteArray), .slice none 0 0]) rfl rfl rfl rfl rfl rfl (by kernel_rfl) (by simp [wrt]) (by simp [Value.oneCell']) ?_; clear HS; (try clear F); intro w75 HS; (try simp only [hpn, hpm] at HS); have F := HS.boxes; simp only [boxFacts, and_true] at F))
                    replace HS := HS.nil 65 q65
                    exact bodyPost_ret (results_list (rs := [.cell 4 65, .tmp 5, .tmp 6]) rfl (by simp) (.cell _ _ _ _ _ rfl (HS.boxAt (i := 0) rfl) Tryd.underlying65 rfl (by kernel_rfl) (.tmp (.tmp .nil)))) rfl ⟨_, rfl, HS.pick [5] (by decide) (by rfl)⟩
            · replace H := zneg c26 H
              have c26a := beq_eq_false_iff_ne.mpr c26
              have c26b := bne_iff_ne.mpr c26
              clear c26
              (try simp only [c26a, c26b, dcn])
              obtain ⟨rfl, rfl, rfl⟩ := zsome3 H
              go_wp2_with (first | ((with_reducible refine gate_store (p := 52) rfl ?_); refine ev_store rfl 1 1 HS (seg := [.string (t17.2.1.extract 0 (t17.1).toNat)]) rfl rfl rfl rfl rfl rfl (by kernel_rfl) (by simp [wrt]) (by simp [Value.oneCell']) ?_; clear HS; (try clear F); intro w77 HS; (try simp only [hpn, hpm] at HS); have F := HS.boxes; simp only [boxFacts, and_true] at F) | ((with_reducible refine gate_store (p := 4) rfl ?_); refine ev_store rfl 0 0 HS (seg := [.int .i64 (wrap64 (bt a0 0)), .string (t17.2.1.extract 0 (t17.1).toNat), .slice none 0 0]) rfl rfl rfl rfl rfl rfl (by kernel_rfl) (by simp [wrt]) (by simp [Value.oneCell']) ?_; clear HS; (try clear F); intro w79 HS; (try simp only [hpn, hpm] at HS); have F := HS.boxes; simp only [boxFacts, and_true] at F))
              replace HS := HS.nil 65 q65
              exact bodyPost_ret (results_list (rs := [.cell 4 65, .tmp 5, .tmp 6]) rfl (by simp) (.cell _ _ _ _ _ rfl (HS.boxAt (i := 0) rfl) Tryd.underlying65 rfl (by kernel_rfl) (.tmp (.tmp .nil)))) rfl ⟨_, rfl, HS.pick [2] (by decide) (by rfl)⟩
        · replace H := zneg c19 H
          replace c19 := eq_false_of_ne_true c19
          obtain ⟨rfl, rfl, rfl⟩ := zsome3 H
          go_wp2_with (first | ((with_reducible refine gate_dst (N := 7) rfl ?_); refine ev_box rfl HS (by first | (go_simp; done) | (go_simp; rfl)) rfl ?_; clear HS; (try clear F); intro g7 w7 HS; (try simp only [hpn, hpm] at HS); have F := HS.boxes; simp only [boxFacts, and_true] at F) | ((with_reducible refine gate_store (p := 7) rfl ?_); refine ev_store rfl 1 0 HS (seg := [.int .i64 (wrap64 (bt a0 0)), .string (⟨#[]⟩ : ByteArray), .slice none 0 0]) rfl rfl rfl rfl rfl rfl (by kernel_rfl) (by simp [wrt]) (by simp [Value.oneCell']) ?_; clear HS; (try clear F); intro w14 HS; (try simp only [hpn, hpm] at HS); have F := HS.boxes; simp only [boxFacts, and_true] at F) | ((with_reducible refine gate_dst (N := 28) rfl ?_); refine ev_val rfl (run_cut rfl rfl Tryd.underlying9 (.inr ⟨_, _, rfl, rfl, of_eq_true (eq_true (by decide : (0:Int) ≤ 1))⟩) (.inl ⟨rfl, rfl⟩) (by have := of_eq_true (eq_true (by decide : (0:Int) ≤ 1)); have := of_eq_true c16; have := of_eq_true (eq_true (Int.le_refl (a0.size : Int))); omega) (by have := of_eq_true (eq_true (by decide : (0:Int) ≤ 1)); have := of_eq_true c16; have := of_eq_true (eq_true (Int.le_refl (a0.size : Int))); omega)) ?_) | ((with_reducible refine gate_dst (N := 29) rfl ?_); refine ev_call rfl Tryd.func109 (by kernel_rfl) rfl #[.string (a0.extract 1 a0.size)] rfl (by simp only [List.map_toArray, List.map_cons, List.map_nil]; rfl) ?_; refine (impl_readLength.calls ht17.out).mono ?_; rintro _ wt17 ⟨rfl, HQ⟩; refine ⟨_, rfl, ?_⟩; replace HS := HS.call HQ; clear HQ; (try clear F); (try simp only [hpn, hpm] at HS); have F := HS.boxes; simp only [boxFacts, and_true] at F; (try simp only [c19])) | ((with_reducible refine gate_store (p := 4) rfl ?_); refine ev_store rfl 0 0 HS (seg := [.int .i64 0, .string (⟨#[]⟩ : ByteArray), .slice none 0 0]) rfl rfl rfl rfl rfl rfl (by kernel_rfl) (by simp [wrt]) (by simp [Value.oneCell']) ?_; clear HS; (try clear F); intro w81 HS; (try simp only [hpn, hpm] at HS); have F := HS.boxes; simp only [boxFacts, and_true] at F))
          replace HS := HS.nil 65 q65
          exact bodyPost_ret (results_list (rs := [.cell 4 65, .tmp 5, .tmp 6]) rfl (by simp) (.cell _ _ _ _ _ rfl (HS.boxAt (i := 0) rfl) Tryd.underlying65 rfl (by kernel_rfl) (.tmp (.tmp .nil)))) rfl ⟨_, rfl, HS.pick [2] (by decide) (by rfl)⟩
theorem impl_readItem.calls {k : Nat} {a0 : ByteArray} {a1 : Int} {r1 : S65} {r2 : ByteArray} {r3 : Bool} {w : World} (h : impl_readItem.f k a0 a1 = some (r1, r2, r3)) :
    Calls Tryd.prog 96 #[.string a0, .int .i64 a1] w (fun e w' => ∃ v0_ : Value, e = .returned (.tuple #[.agg #[.int .i64 r1.f0, .string r1.f1, v0_], .string r2, .bool r3]) ∧ Hp noFP w w' [.own (Zd.slice 65 q65) r1.f2 [v0_]]) := impl_readItem.calls_ k (Nat.le_refl k) h
/-! ### impl_ReadItem: function 52 -/
def impl_ReadItem.f (k : Nat) (a0 : ByteArray) : Option (S65 × Bool) := (if 4000 < (a0.size : Int) then (some ((⟨0, (⟨#[]⟩ : ByteArray), ([] : List S65)⟩ : S65), false)) else ((impl_readItem.f k a0 0).bind fun t6 => (if t6.2.2 = true then (if t6.2.1.toList = ([] : List UInt8) then ((impl_ItemText.f k t6.1).bind fun t15 => (if t15.2 = true then (if t15.1.toList = a0.toList then (some ((⟨t6.1.f0, t6.1.f1, t6.1.f2⟩ : S65), true)) else (some ((⟨0, (⟨#[]⟩ : ByteArray), ([] : List S65)⟩ : S65), false))) else (some ((⟨0, (⟨#[]⟩ : ByteArray), ([] : List S65)⟩ : S65), false)))) else (some ((⟨0, (⟨#[]⟩ : ByteArray), ([] : List S65)⟩ : S65), false))) else (some ((⟨0, (⟨#[]⟩ : ByteArray), ([] : List S65)⟩ : S65), false)))))
set_option maxHeartbeats 16000000 in
theorem impl_ReadItem.calls {k : Nat} {a0 : ByteArray} {r1 : S65} {r2 : Bool} {w : World} (h : impl_ReadItem.f k a0 = some (r1, r2)) :
    Calls Tryd.prog 52 #[.string a0] w (fun e w' => ∃ v0_ : Value, e = .returned (.tuple #[.agg #[.int .i64 r1.f0, .string r1.f1, v0_], .bool r2]) ∧ Hp noFP w w' [.own (Zd.slice 65 q65) r1.f2 [v0_]]) := by
 have HS := Hp.start w
 have H := Aside0.mk h
 clear h
 unfold impl_ReadItem.f at H
 go_enter Tryd.func52, Tryd.ntmps52
 go_upto_if 11 with (first | ((with_reducible refine gate_dst (N := 2) rfl ?_); refine ev_box rfl HS (by first | (go_simp; done) | (go_simp; rfl)) rfl ?_; clear HS; (try clear F); intro g2 w2 HS; (try simp only [hpn, hpm] at HS); have F := HS.boxes; simp only [boxFacts, and_true] at F))
 by_cases c3 : 4000 < (a0.size : Int)
 · replace H := zpos c3 H
   replace c3 := eq_true c3
   (try simp only [c3, dcn])
   obtain ⟨rfl, rfl⟩ := zsome2 H
   go_wp2_with (first | ((with_reducible refine gate_store (p := 2) rfl ?_); refine ev_store rfl 0 0 HS (seg := [.int .i64 0, .string (⟨#[]⟩ : ByteArray), .slice none 0 0]) rfl rfl rfl rfl rfl rfl (by kernel_rfl) (by simp [wrt]) (by simp [Value.oneCell']) ?_; clear HS; (try clear F); intro w4 HS; (try simp only [hpn, hpm] at HS); have F := HS.boxes; simp only [boxFacts, and_true] at F))
   replace HS := HS.nil 65 q65
   exact bodyPost_ret (results_list (rs := [.cell 2 65, .tmp 3]) rfl (by simp) (.cell _ _ _ _ _ rfl (HS.boxAt (i := 0) rfl) Tryd.underlying65 rfl (by kernel_rfl) (.tmp .nil))) rfl ⟨_, rfl, HS.pick [1] (by decide) (by rfl)⟩
 · replace H := zneg c3 H
   replace c3 := eq_false c3
   (try simp only [c3, dcn])
   replace H := zbind H; obtain ⟨t6, ht6, H⟩ := H
   by_cases c13 : t6.2.2 = true
   · replace H := zpos c13 H
     go_upto_if 24 with (first | ((with_reducible refine gate_dst (N := 15) rfl ?_); refine ev_call rfl Tryd.func96 (by kernel_rfl) rfl #[.string a0, .int .i64 0] rfl (by simp only [List.map_toArray, List.map_cons, List.map_nil]; rfl) ?_; refine (impl_readItem.calls ht6.out).mono ?_; rintro _ wt6 ⟨v7, rfl, HQ⟩; refine ⟨_, rfl, ?_⟩; replace HS := HS.call HQ; clear HQ; (try clear F); obtain ⟨B7, d7, rfl, m7⟩ := HS.form 1 rfl; (try simp only [hpn, hpm] at HS); have F := HS.boxes; simp only [boxFacts, and_true] at F) | ((with_reducible refine gate_dst (N := 4) rfl ?_); refine ev_box rfl HS (by first | (go_simp; done) | (go_simp; rfl)) rfl ?_; clear HS; (try clear F); intro g4 w4 HS; (try simp only [hpn, hpm] at HS); have F := HS.boxes; simp only [boxFacts, and_true] at F) | ((with_reducible refine gate_store (p := 4) rfl ?_); refine ev_store rfl 2 0 HS (seg := [.int .i64 t6.1.f0, .string t6.1.f1, .slice B7 t6.1.f2.length d7]) rfl rfl rfl rfl rfl rfl (by kernel_rfl) (by simp [wrt]) (by simp [Value.oneCell']) ?_; clear HS; (try clear F); intro w11 HS; (try simp only [hpn, hpm] at HS); have F := HS.boxes; simp only [boxFacts, and_true] at F; (try simp only [c13])))
     by_cases c14 : t6.2.1.toList = ([] : List UInt8)
     · replace H := zpos c14 H
       have c14a := beq_iff_eq.mpr c14
       have c14b := bne_eq_false_iff_eq.mpr c14
       have c14e := List.isEmpty_iff.mpr c14
       clear c14
       (try simp only [c14a, c14b, c14e, dcn])
       replace H := zbind H; obtain ⟨t15, ht15, H⟩ := H
       by_cases c17 : t15.2 = true
       · replace H := zpos c17 H
         go_upto_if 37 with (first | ((with_reducible refine gate_dst (N := 28) rfl ?_); refine ev_call rfl Tryd.func41 (by kernel_rfl) rfl #[.agg #[.int .i64 t6.1.f0, .string t6.1.f1, .slice B7 t6.1.f2.length d7]] rfl (by simp only [List.map_toArray, List.map_cons, List.map_nil]; rfl) ?_; refine (impl_ItemText.calls ht15.out (HS.rd 1 rfl) m7).mono ?_; rintro _ wt15 ⟨rfl, HQ⟩; refine ⟨_, rfl, ?_⟩; replace HS := HS.call HQ; clear HQ; (try clear F); (try simp only [hpn, hpm] at HS); have F := HS.boxes; simp only [boxFacts, and_true] at F; (try simp only [c17])))
         by_cases c18 : t15.1.toList = a0.toList
         · replace H := zpos c18 H
           have c18a := beq_iff_eq.mpr c18
           have c18b := bne_eq_false_iff_eq.mpr c18
           clear c18
           (try simp only [c18a, c18b, dcn])
           obtain ⟨rfl, rfl⟩ := zsome2 H
           go_wp2_with (first | ((with_reducible refine gate_store (p := 2) rfl ?_); refine ev_store rfl 0 0 HS (seg := [.int .i64 t6.1.f0, .string t6.1.f1, .slice B7 t6.1.f2.length d7]) rfl rfl rfl rfl rfl rfl (by kernel_rfl) (by simp [wrt]) (by simp [Value.oneCell']) ?_; clear HS; (try clear F); intro w19 HS; (try simp only [hpn, hpm] at HS); have F := HS.boxes; simp only [boxFacts, and_true] at F))
           exact bodyPost_ret (results_list (rs := [.cell 2 65, .tmp 3]) rfl (by simp) (.cell _ _ _ _ _ rfl (HS.boxAt (i := 0) rfl) Tryd.underlying65 rfl (by kernel_rfl) (.tmp .nil))) rfl ⟨_, rfl, HS.pick [1] (by decide) (by rfl)⟩
         · replace H := zneg c18 H
           have c18a := beq_eq_false_iff_ne.mpr c18
           have c18b := bne_iff_ne.mpr c18
           clear c18
           (try simp only [c18a, c18b, dcn])
           obtain ⟨rfl, rfl⟩ := zsome2 H
           go_wp2_with (first | ((with_reducible refine gate_store (p := 2) rfl ?_); refine ev_store rfl 0 0 HS (seg := [.int .i64 0, .string (⟨#[]⟩ : ByteArray), .slice none 0 0]) rfl rfl rfl rfl rfl rfl (by kernel_rfl) (by simp [wrt]) (by simp [Value.oneCell']) ?_; clear HS; (try clear F); intro w21 HS; (try simp only [hpn, hpm] at HS); have F := HS.boxes; simp only [boxFacts, and_true] at F))
           replace HS := HS.nil 65 q65
           exact bodyPost_ret (results_list (rs := [.cell 2 65, .tmp 3]) rfl (by simp) (.cell _ _ _ _ _ rfl (HS.boxAt (i := 0) rfl) Tryd.underlying65 rfl (by kernel_rfl) (.tmp .nil))) rfl ⟨_, rfl, HS.pick [3] (by decide) (by rfl)⟩
       · replace H := zneg c17 H
         replace c17 := eq_false_of_ne_true c17
         obtain ⟨rfl, rfl⟩ := zsome2 H
         go_wp2_with (first | ((with_reducible refine gate_dst (N := 28) rfl ?_); refine ev_call rfl Tryd.func41 (by kernel_rfl) rfl #[.agg #[.int .i64 t6.1.f0, .string t6.1.f1, .slice B7 t6.1.f2.length d7]] rfl (by simp only [List.map_toArray, List.map_cons, List.map_nil]; rfl) ?_; refine (impl_ItemText.calls ht15.out (HS.rd 1 rfl) m7).mono ?_; rintro _ wt15 ⟨rfl, HQ⟩; refine ⟨_, rfl, ?_⟩; replace HS := HS.call HQ; clear HQ; (try clear F); (try simp only [hpn, hpm] at HS); have F := HS.boxes; simp only [boxFacts, and_true] at F; (try simp only [c17])) | ((with_reducible refine gate_store (p := 2) rfl ?_); refine ev_store rfl 0 0 HS (seg := [.int .i64 0, .string (⟨#[]⟩ : ByteArray), .slice none 0 0]) rfl rfl rfl rfl rfl rfl (by kernel_rfl) (by simp [wrt]) (by simp [Value.oneCell']) ?_; clear HS; (try clear F); intro w23 HS; (try simp only [hpn, hpm] at HS); have F := HS.boxes; simp only [boxFacts, and_true] at F))
         replace HS := HS.nil 65 q65
         exact bodyPost_ret (results_list (rs := [.cell 2 65, .tmp 3]) rfl (by simp) (.cell _ _ _ _ _ rfl (HS.boxAt (i := 0) rfl) Tryd.underlying65 rfl (by kernel_rfl) (.tmp .nil))) rfl ⟨_, rfl, HS.pick [3] (by decide) (by rfl)⟩
     · replace H := zneg c14 H
       have c14a := beq_eq_false_iff_ne.mpr c14
       have c14b := bne_iff_ne.mpr c14
       have c14e := List.isEmpty_eq_false_iff.mpr c14
       clear c14
       (try simp only [c14a, c14b, c14e, dcn])
       obtain ⟨rfl, rfl⟩ := zsome2 H
       go_wp2_with (first | ((with_reducible refine gate_store (p := 2) rfl ?_); refine ev_store rfl 0 0 HS (seg := [.int .i64 0, .string (⟨#[]⟩ : ByteArray), .slice none 0 0]) rfl rfl rfl rfl rfl rfl (by kernel_rfl) (by simp [wrt]) (by simp [Value.oneCell']) ?_; clear HS; (try clear F); intro w25 HS; (try simp only [hpn, hpm] at HS); have F := HS.boxes; simp only [boxFacts, and_true] at F))
       replace HS := HS.nil 65 q65
       exact bodyPost_ret (results_list (rs := [.cell 2 65, .tmp 3]) rfl (by simp) (.cell _ _ _ _ _ rfl (HS.boxAt (i := 0) rfl) Tryd.underlying65 rfl (by kernel_rfl) (.tmp .nil))) rfl ⟨_, rfl, HS.pick [3] (by decide) (by rfl)⟩
   · replace H := zneg c13 H
     replace c13 := eq_false_of_ne_true c13
     obtain ⟨rfl, rfl⟩ := zsome2 H
     go_wp2_with (first | ((with_reducible refine gate_dst (N := 15) rfl ?_); refine ev_call rfl Tryd.func96 (by kernel_rfl) rfl #[.string a0, .int .i64 0] rfl (by simp only [List.map_toArray, List.map_cons, List.map_nil]; rfl) ?_; refine (impl_readItem.calls ht6.out).mono ?_; rintro _ wt6 ⟨v7, rfl, HQ⟩; refine ⟨_, rfl, ?_⟩; replace HS := HS.call HQ; clear HQ; (try clear F); obtain ⟨B7, d7, rfl, m7⟩ := HS.form 1 rfl; (try simp only [hpn, hpm] at HS); have F := HS.boxes; simp only [boxFacts, and_true] at F) | ((with_reducible refine gate_dst (N := 4) rfl ?_); refine ev_box rfl HS (by first | (go_simp; done) | (go_simp; rfl)) rfl ?_; clear HS; (try clear F); intro g4 w4 HS; (try simp only [hpn, hpm] at HS); have F := HS.boxes; simp only [boxFacts, and_true] at F) | ((with_reducible refine gate_store (p := 4) rfl ?_); refine ev_store rfl 2 0 HS (seg := [.int .i64 t6.1.f0, .string t6.1.f1, .slice B7 t6.1.f2.length d7]) rfl rfl rfl rfl rfl rfl (by kernel_rfl) (by simp [wrt]) (by simp [Value.oneCell']) ?_; clear HS; (try clear F); intro w11 HS; (try simp only [hpn, hpm] at HS); have F := HS.boxes; simp only [boxFacts, and_true] at F; (try simp only [c13])) | ((with_reducible refine gate_store (p := 2) rfl ?_); refine ev_store rfl 0 0 HS (seg := [.int .i64 0, .string (⟨#[]⟩ : ByteArray), .slice none 0 0]) rfl rfl rfl rfl rfl rfl (by kernel_rfl) (by simp [wrt]) (by simp [Value.oneCell']) ?_; clear HS; (try clear F); intro w27 HS; (try simp only [hpn, hpm] at HS); have F := HS.boxes; simp only [boxFacts, and_true] at F))
     replace HS := HS.nil 65 q65
     exact bodyPost_ret (results_list (rs := [.cell 2 65, .tmp 3]) rfl (by simp) (.cell _ _ _ _ _ rfl (HS.boxAt (i := 0) rfl) Tryd.underlying65 rfl (by kernel_rfl) (.tmp .nil))) rfl ⟨_, rfl, HS.pick [3] (by decide) (by rfl)⟩
/-! ### impl_opener_list_0: function 53 -/
def impl_opener_list_0.f (a0 : S86) (a1 : S65) (a2 : Int) : Option ((Bool × Nat) × S86) := (if a1.f0 = 48 then (if 0 ≤ a2 then (if (a1.f2.length : Int) = a2 then (some ((true, 0), a0)) else (if a2 < 0 then (some ((false, 0), (⟨true⟩ : S86))) else (if 0 ≤ a2 then (if (a2).toNat ≤ 5864062014805 then (some ((false, (a2).toNat), (⟨true⟩ : S86))) else none) else none))) else (some ((true, 0), a0))) else (if a2 < 0 then (some ((false, 0), (⟨true⟩ : S86))) else (if 0 ≤ a2 then (if (a2).toNat ≤ 5864062014805 then (some ((false, (a2).toNat), (⟨true⟩ : S86))) else none) else none)))
set_option maxHeartbeats 16000000 in
theorem impl_opener_list_0.calls {a0 : S86} {a1 : S65} {a2 : Int} {A : FP} {p0 : Nat} {Ap1 : Option Addr} {np1 cp1 : Nat} {wv : World} {r1 : (Bool × Nat)} {r2 : S86} {w : World} (h : impl_opener_list_0.f a0 a1 a2 = some (r1, r2)) (gp1 : k65.C wv Ap1 np1 a1.f2) (lp1 : np1 ≤ cp1) (hV : View A w wv) (HS : Hp A w w [.box p0 [.bool a0.f0] 86]) :
    Calls Tryd.prog 53 #[.pointer (some ⟨p0, 0, none⟩), .agg #[.int .i64 a1.f0, .string a1.f1, .slice Ap1 np1 cp1], .int .i64 a2] w (fun e w' => ∃ v0_ : Value, e = .returned (cond r1.1 (.slice Ap1 np1 cp1) v0_) ∧ Hp A w w' [.box p0 [.bool r2.f0] 86, .own (Zd.slice 65 q65) (List.replicate r1.2 z65) [v0_]]) := by
 obtain rfl := C_len gp1
 have H := Aside0.mk h
 clear h
 unfold impl_opener_list_0.f at H
 go_enter Tryd.func53, Tryd.ntmps53
 by_cases c3 : a1.f0 = 48
 · replace H := zpos c3 H
   have c3a := beq_iff_eq.mpr c3
   have c3b := bne_eq_false_iff_eq.mpr c3
   clear c3
   by_cases c4 : 0 ≤ a2
   · replace H := zpos c4 H
     replace c4 := eq_true c4
     go_upto_if 20 with (first | ((with_reducible refine gate_dst (N := 4) rfl ?_); refine ev_box rfl HS (by first | (go_simp; done) | (go_simp; rfl)) rfl ?_; clear HS; (try clear F); intro g4 w4 HS; (try simp only [hpn, hpm] at HS); have F := HS.boxes; simp only [boxFacts, and_true] at F))
     by_cases c5 : (a1.f2.length : Int) = a2
     · replace H := zpos c5 H
       have c5a := beq_iff_eq.mpr c5
       have c5b := bne_eq_false_iff_eq.mpr c5
       clear c5
       (try simp only [c5a, c5b, dcn])
       obtain ⟨rfl, rfl⟩ := zsome2 H
       go_wp2
       replace HS := HS.nil 65 q65
       first | exact bodyPost_ret (results_single rfl (.tmp .nil)) rfl ⟨_, rfl, HS.pick [0, 2] (by decide) (by rfl)⟩ | exact bodyPost_ret (results_single rfl (.tmp .nil)) rfl ⟨rfl, _, HS.pick [0, 2] (by decide) (by rfl)⟩
     · replace H := zneg c5 H
       have c5a := beq_eq_false_iff_ne.mpr c5
       have c5b := bne_iff_ne.mpr c5
       clear c5
       (try simp only [c5a, c5b, dcn])
       by_cases c8 : a2 < 0
       · replace H := zpos c8 H
         replace c8 := eq_true c8
         obtain ⟨rfl, rfl⟩ := zsome2 H
         go_wp2_with (first | ((with_reducible refine gate_store (p := 23) rfl ?_); refine ev_store rfl 0 0 HS (seg := [.bool true]) rfl rfl rfl rfl rfl rfl (by kernel_rfl) (by simp [wrt]) (by simp [Value.oneCell']) ?_; clear HS; (try clear F); intro w6 HS; (try simp only [hpn, hpm] at HS); have F := HS.boxes; simp only [boxFacts, and_true] at F) | ((with_reducible refine gate_dst (N := 26) rfl ?_); refine ev_make rfl q65 z65 HS rfl (0 : Int) rfl rfl Tryd.underlying63 info65 rfl (by decide) (by decide) q65_zero (of_eq_true (eq_true (by decide : (0 : Int) ≤ 0))) (by have := of_eq_true (eq_true (by decide : (0 : Int).toNat ≤ 5864062014805)); omega) ?_; clear HS; (try clear F); intro v9 w9 HS; obtain ⟨B9, d9, rfl, m9⟩ := HS.formn 0 2 rfl (by first | rfl | simp); (try simp only [hpn, hpm] at HS); have F := HS.boxes; simp only [boxFacts, and_true] at F))
         first | exact bodyPost_ret (results_single rfl (.tmp .nil)) rfl ⟨_, rfl, HS.pick [0, 2] (by decide) (by rfl)⟩ | exact bodyPost_ret (results_single rfl (.tmp .nil)) rfl ⟨rfl, _, HS.pick [0, 2] (by decide) (by rfl)⟩
       · replace H := zneg c8 H
         replace c8 := eq_false c8
         by_cases c11 : 0 ≤ a2
         case neg => exact zno c11 H
         replace H := zpos c11 H
         replace c11 := eq_true c11
         by_cases c12 : (a2).toNat ≤ 5864062014805
         case neg => exact zno c12 H
         replace H := zpos c12 H
         replace c12 := eq_true c12
         obtain ⟨rfl, rfl⟩ := zsome2 H
         go_wp2_with (first | ((with_reducible refine gate_store (p := 23) rfl ?_); refine ev_store rfl 0 0 HS (seg := [.bool true]) rfl rfl rfl rfl rfl rfl (by kernel_rfl) (by simp [wrt]) (by simp [Value.oneCell']) ?_; clear HS; (try clear F); intro w6 HS; (try simp only [hpn, hpm] at HS); have F := HS.boxes; simp only [boxFacts, and_true] at F) | ((with_reducible refine gate_dst (N := 26) rfl ?_); refine ev_make rfl q65 z65 HS rfl a2 rfl rfl Tryd.underlying63 info65 rfl (by decide) (by decide) q65_zero (of_eq_true c11) (by have := of_eq_true c12; omega) ?_; clear HS; (try clear F); intro v13 w13 HS; obtain ⟨B13, d13, rfl, m13⟩ := HS.formn ((a2).toNat) 2 rfl (by first | rfl | simp); (try simp only [hpn, hpm] at HS); have F := HS.boxes; simp only [boxFacts, and_true] at F))
         first | exact bodyPost_ret (results_single rfl (.tmp .nil)) rfl ⟨_, rfl, HS.pick [0, 2] (by decide) (by rfl)⟩ | exact bodyPost_ret (results_single rfl (.tmp .nil)) rfl ⟨rfl, _, HS.pick [0, 2] (by decide) (by rfl)⟩
   · replace H := zneg c4 H
     replace c4 := eq_false c4
     obtain ⟨rfl, rfl⟩ := zsome2 H
     go_wp2_with (first | ((with_reducible refine gate_dst (N := 4) rfl ?_); refine ev_box rfl HS (by first | (go_simp; done) | (go_simp; rfl)) rfl ?_; clear HS; (try clear F); intro g4 w4 HS; (try simp only [hpn, hpm] at HS); have F := HS.boxes; simp only [boxFacts, and_true] at F))
     replace HS := HS.nil 65 q65
     first | exact bodyPost_ret (results_single rfl (.tmp .nil)) rfl ⟨_, rfl, HS.pick [0, 2] (by decide) (by rfl)⟩ | exact bodyPost_ret (results_single rfl (.tmp .nil)) rfl ⟨rfl, _, HS.pick [0, 2] (by decide) (by rfl)⟩
 · replace H := zneg c3 H
   have c3a := beq_eq_false_iff_ne.mpr c3
   have c3b := bne_iff_ne.mpr c3
   clear c3
   by_cases c17 : a2 < 0
   · replace H := zpos c17 H
     replace c17 := eq_true c17
     obtain ⟨rfl, rfl⟩ := zsome2 H
     go_wp2_with (first | ((with_reducible refine gate_dst (N := 4) rfl ?_); refine ev_box rfl HS (by first | (go_simp; done) | (go_simp; rfl)) rfl ?_; clear HS; (try clear F); intro g4 w4 HS; (try simp only [hpn, hpm] at HS); have F := HS.boxes; simp only [boxFacts, and_true] at F) | ((with_reducible refine gate_store (p := 23) rfl ?_); refine ev_store rfl 0 0 HS (seg := [.bool true]) rfl rfl rfl rfl rfl rfl (by kernel_rfl) (by simp [wrt]) (by simp [Value.oneCell']) ?_; clear HS; (try clear F); intro w15 HS; (try simp only [hpn, hpm] at HS); have F := HS.boxes; simp only [boxFacts, and_true] at F) | ((with_reducible refine gate_dst (N := 26) rfl ?_); refine ev_make rfl q65 z65 HS rfl (0 : Int) rfl rfl Tryd.underlying63 info65 rfl (by decide) (by decide) q65_zero (of_eq_true (eq_true (by decide : (0 : Int) ≤ 0))) (by have := of_eq_true (eq_true (by decide : (0 : Int).toNat ≤ 5864062014805)); omega) ?_; clear HS; (try clear F); intro v18 w18 HS; obtain ⟨B18, d18, rfl, m18⟩ := HS.formn 0 2 rfl (by first | rfl | simp); (try simp only [hpn, hpm] at HS); have F := HS.boxes; simp only [boxFacts, and_true] at F))
     first | exact bodyPost_ret (results_single rfl (.tmp .nil)) rfl ⟨_, rfl, HS.pick [0, 2] (by decide) (by rfl)⟩ | exact bodyPost_ret (results_single rfl (.tmp .nil)) rfl ⟨rfl, _, HS.pick [0, 2] (by decide) (by rfl)⟩
   · replace H := zneg c17 H
     replace c17 := eq_false c17
     by_cases c20 : 0 ≤ a2
     case neg => exact zno c20 H
     replace H := zpos c20 H
     replace c20 := eq_true c20
     by_cases c21 : (a2).toNat ≤ 5864062014805
     case neg => exact zno c21 H
     replace H := zpos c21 H
     replace c21 := eq_true c21
     obtain ⟨rfl, rfl⟩ := zsome2 H
     go_wp2_with (first | ((with_reducible refine gate_dst (N := 4) rfl ?_); refine ev_box rfl HS (by first | (go_simp; done) | (go_simp; rfl)) rfl ?_; clear HS; (try clear F); intro g4 w4 HS; (try simp only [hpn, hpm] at HS); have F := HS.boxes; simp only [boxFacts, and_true] at F) | ((with_reducible refine gate_store (p := 23) rfl ?_); refine ev_store rfl 0 0 HS (seg := [.bool true]) rfl rfl rfl rfl rfl rfl (by kernel_rfl) (by simp [wrt]) (by simp [Value.oneCell']) ?_; clear HS; (try clear F); intro w15 HS; (try simp only [hpn, hpm] at HS); have F := HS.boxes; simp only [boxFacts, and_true] at F) | ((with_reducible refine gate_dst (N := 26) rfl ?_); refine ev_make rfl q65 z65 HS rfl a2 rfl rfl Tryd.underlying63 info65 rfl (by decide) (by decide) q65_zero (of_eq_true c20) (by have := of_eq_true c21; omega) ?_; clear HS; (try clear F); intro v22 w22 HS; obtain ⟨B22, d22, rfl, m22⟩ := HS.formn ((a2).toNat) 2 rfl (by first | rfl | simp); (try simp only [hpn, hpm] at HS); have F := HS.boxes; simp only [boxFacts, and_true] at F))
     first | exact bodyPost_ret (results_single rfl (.tmp .nil)) rfl ⟨_, rfl, HS.pick [0, 2] (by decide) (by rfl)⟩ | exact bodyPost_ret (results_single rfl (.tmp .nil)) rfl ⟨rfl, _, HS.pick [0, 2] (by decide) (by rfl)⟩
/-! ### impl_opener_text_0: function 54 -/
def impl_opener_text_0.f (a0 : S86) (a1 : S65) (a2 : Int) : Option (ByteArray × S86) := (if a0.f0 = true then (some (a1.f1, (⟨true⟩ : S86))) else (some (a1.f1, (⟨(a1.f0 != a2)⟩ : S86))))
set_option maxHeartbeats 16000000 in
theorem impl_opener_text_0.calls {a0 : S86} {a1 : S65} {a2 : Int} {A : FP} {p0 : Nat} {Ap1 : Option Addr} {np1 cp1 : Nat} {wv : World} {r1 : ByteArray} {r2 : S86} {w : World} (h : impl_opener_text_0.f a0 a1 a2 = some (r1, r2)) (gp1 : k65.C wv Ap1 np1 a1.f2) (lp1 : np1 ≤ cp1) (hV : View A w wv) (HS : Hp A w w [.box p0 [.bool a0.f0] 86]) :
    Calls Tryd.prog 54 #[.pointer (some ⟨p0, 0, none⟩), .agg #[.int .i64 a1.f0, .string a1.f1, .slice Ap1 np1 cp1], .int .i64 a2] w (fun e w' => e = .returned (.string r1) ∧ Hp A w w' [.box p0 [.bool r2.f0] 86]) := by
 obtain rfl := C_len gp1
 have H := Aside0.mk h
 clear h
 unfold impl_opener_text_0.f at H
 go_enter Tryd.func54, Tryd.ntmps54
 by_cases c3 : a0.f0 = true
 · replace H := zpos c3 H
   obtain ⟨rfl, rfl⟩ := zsome2 H
   go_wp2_with (first | ((with_reducible refine gate_dst (N := 4) rfl ?_); refine ev_box rfl HS (by first | (go_simp; done) | (go_simp; rfl)) rfl ?_; clear HS; (try clear F); intro g4 w4 HS; (try simp only [hpn, hpm] at HS); have F := HS.boxes; simp only [boxFacts, and_true] at F; (try simp only [c3])) | ((with_reducible refine gate_store (p := 19) rfl ?_); refine ev_store rfl 0 0 HS (seg := [.bool true]) rfl rfl rfl rfl rfl rfl (by kernel_rfl) (by simp [wrt]) (by simp [Value.oneCell']) ?_; clear HS; (try clear F); intro w4 HS; (try simp only [hpn, hpm] at HS); have F := HS.boxes; simp only [boxFacts, and_true] at F))
   go_ret
   exact ⟨rfl, HS.pick [0] (by decide) (by rfl)⟩
 · replace H := zneg c3 H
   replace c3 := eq_false_of_ne_true c3
   obtain ⟨rfl, rfl⟩ := zsome2 H
   go_wp2_with (first | ((with_reducible refine gate_dst (N := 4) rfl ?_); refine ev_box rfl HS (by first | (go_simp; done) | (go_simp; rfl)) rfl ?_; clear HS; (try clear F); intro g4 w4 HS; (try simp only [hpn, hpm] at HS); have F := HS.boxes; simp only [boxFacts, and_true] at F; (try simp only [c3])) | ((with_reducible refine gate_store (p := 19) rfl ?_); refine ev_store rfl 0 0 HS (seg := [.bool (a1.f0 != a2)]) rfl rfl rfl rfl rfl rfl (by kernel_rfl) (by simp [wrt]) (by simp [Value.oneCell']) ?_; clear HS; (try clear F); intro w6 HS; (try simp only [hpn, hpm] at HS); have F := HS.boxes; simp only [boxFacts, and_true] at F))
   go_ret
   exact ⟨rfl, HS.pick [0] (by decide) (by rfl)⟩
/-! ### impl_SameItem: function 110 -/
mutual
def impl_SameItem.f : Nat → S65 → S65 → Option (Bool)
  | 0, _, _ => none
  | k + 1, a0, a1 => (if a0.f0 = a1.f0 then (if a0.f1.toList = a1.f1.toList then ((impl_SameItem_impl_Item.f k a0.f2 a1.f2).bind fun t7 => (some t7)) else (some false)) else (some false))
def impl_SameItem_impl_Item.l0 : Nat → Int → (List S65) → (List S65) → Option (Bool)
  | 0, _, _, _ => none
  | k + 1, x5, a0, a1 => (if x5 < (a0.length : Int) then (if 0 ≤ x5 then (if x5 < (a0.length : Int) then (if x5 < (a1.length : Int) then ((impl_SameItem.f k (rd_T65 a0 x5) (rd_T65 a1 x5)).bind fun t21 => (if t21 = true then (impl_SameItem_impl_Item.l0 k (wrap64 (x5 + 1)) a0 a1) else (some false))) else none) else none) else none) else (some true))
def impl_SameItem_impl_Item.f : Nat → (List S65) → (List S65) → Option (Bool)
  | 0, _, _ => none
  | k + 1, a0, a1 => (if (a0.length : Int) = (a1.length : Int) then (impl_SameItem_impl_Item.l0 k 0 a0 a1) else (some false))
end
set_option maxHeartbeats 16000000 in
theorem impl_SameItem_impl_Item.calls_ {K : Nat} (IH : ∀ {k : Nat} (hK : k ≤ K) {a0 : S65} {a1 : S65} {Ap0 : Option Addr} {np0 cp0 : Nat} {Ap1 : Option Addr} {np1 cp1 : Nat} {r : Bool} {w : World} (h : impl_SameItem.f k a0 a1 = some r) (gp0 : k65.C w Ap0 np0 a0.f2) (lp0 : np0 ≤ cp0) (gp1 : k65.C w Ap1 np1 a1.f2) (lp1 : np1 ≤ cp1), Calls Tryd.prog 110 #[.agg #[.int .i64 a0.f0, .string a0.f1, .slice Ap0 np0 cp0], .agg #[.int .i64 a1.f0, .string a1.f1, .slice Ap1 np1 cp1]] w (fun e w' => e = .returned (.bool r) ∧ Hp noFP w w' [])) : ∀ {k : Nat} (hK : k ≤ K) {a0 : (List S65)} {a1 : (List S65)} {Ap0 : Option Addr} {np0 cp0 : Nat} {Ap1 : Option Addr} {np1 cp1 : Nat} {r : Bool} {w : World} (h : impl_SameItem_impl_Item.f k a0 a1 = some r) (gp0 : k65.C w Ap0 np0 a0) (lp0 : np0 ≤ cp0) (gp1 : k65.C w Ap1 np1 a1) (lp1 : np1 ≤ cp1),
    Calls Tryd.prog 115 #[.slice Ap0 np0 cp0, .slice Ap1 np1 cp1, .func (.func 110) #[] #[]] w (fun e w' => e = .returned (.bool r) ∧ Hp noFP w w' []) := by
  intro k hK a0 a1 Ap0 np0 cp0 Ap1 np1 cp1 r w h gp0 lp0 gp1 lp1
  cases k with
  | zero => exact absurd h (by simp [impl_SameItem_impl_Item.f])
  | succ k =>
  have HK0 : Aside0 (k ≤ K) := ⟨by omega⟩
  clear hK
  obtain rfl := C_len gp0
  obtain rfl := C_len gp1
  have HS := Hp.start w
  have H := Aside0.mk h
  clear h
  simp only [impl_SameItem_impl_Item.f] at H
  go_enter Tryd.func115, Tryd.ntmps115
  by_cases c1 : (a0.length : Int) = (a1.length : Int)
  · replace H := zpos c1 H
    have c1a := beq_iff_eq.mpr c1
    have c1b := bne_eq_false_iff_eq.mpr c1
    clear c1
    go_wp2
    go_loopg [17] k (fun kq v_17 w' => ∃ (x5 : Int), v_17 = .int .i64 x5 ∧ Aside0 (impl_SameItem_impl_Item.l0 kq x5 a0 a1 = some r) ∧ Aside0 (kq ≤ k) ∧ Hp noFP w w' [])
    case atStart => exact ⟨_, rfl, H, ⟨Nat.le_refl _⟩, HS⟩
    case round =>
     clear HS H; (try clear F)
     obtain ⟨x5, rfl, H, HKk4, HS⟩ := hrel
     cases gk with
     | zero => exact absurd H.out (by simp [impl_SameItem_impl_Item.l0])
     | succ k4 =>
      simp only [impl_SameItem_impl_Item.l0] at H
      by_cases c7 : x5 < (a0.length : Int)
      · replace H := zpos c7 H
        replace c7 := eq_true c7
        by_cases c8 : 0 ≤ x5
        case neg => exact zno c8 H
        replace H := zpos c8 H
        replace c8 := eq_true c8
        by_cases c9 : x5 < (a0.length : Int)
        case neg => exact zno c9 H
        replace H := zpos c9 H
        replace c9 := eq_true c9
        obtain ⟨ad10, B10_2, d10_2, rfl, e10_0, e10_1, e10_2, m10_2, y10_2⟩ := at_T65 gp0 x5 (of_eq_true c8) (of_eq_true c9)
        have e10_0_10 := (HS.keepc e10_0)
        have e10_1_10 := (HS.keepc e10_1)
        have e10_2_10 := (HS.keepc e10_2)
        by_cases c15 : x5 < (a1.length : Int)
        case neg => exact zno c15 H
        replace H := zpos c15 H
        replace c15 := eq_true c15
        replace H := zbind H; obtain ⟨t21, ht21, H⟩ := H
        go_upto_if 30 with (first | ((with_reducible refine gate_dst (N := 8) rfl ?_); refine ev_box rfl HS (by first | (go_simp; done) | (go_simp; rfl)) rfl ?_; clear HS; (try clear F); intro g8 w8 HS; (try simp only [hpn, hpm] at HS); have F := HS.boxes; simp only [boxFacts, and_true] at F) | ((with_reducible refine gate_store (p := 8) rfl ?_); refine ev_store rfl 0 0 HS (seg := [.int .i64 ((rd_T65 a0 x5).f0), .string ((rd_T65 a0 x5).f1), .slice B10_2 (rd_T65 a0 x5).f2.length d10_2]) rfl rfl rfl rfl rfl rfl (by kernel_rfl) (by simp [wrt]) (by simp [Value.oneCell']) ?_; clear HS; (try clear F); intro w13 HS; (try simp only [hpn, hpm] at HS); have F := HS.boxes; simp only [boxFacts, and_true] at F; obtain ⟨ad16, B16_2, d16_2, rfl, e16_0, e16_1, e16_2, m16_2, y16_2⟩ := at_T65 gp1 x5 (of_eq_true c8) (of_eq_true c15); have e16_0_16 := (HS.keepc e16_0); have e16_1_16 := (HS.keepc e16_1); have e16_2_16 := (HS.keepc e16_2)) | ((with_reducible refine gate_dst (N := 9) rfl ?_); refine ev_box rfl HS (by first | (go_simp; done) | (go_simp; rfl)) rfl ?_; clear HS; (try clear F); intro g9 w9 HS; (try simp only [hpn, hpm] at HS); have F := HS.boxes; simp only [boxFacts, and_true] at F) | ((with_reducible refine gate_store (p := 9) rfl ?_); refine ev_store rfl 1 0 HS (seg := [.int .i64 ((rd_T65 a1 x5).f0), .string ((rd_T65 a1 x5).f1), .slice B16_2 (rd_T65 a1 x5).f2.length d16_2]) rfl rfl rfl rfl rfl rfl (by kernel_rfl) (by simp [wrt]) (by simp [Value.oneCell']) ?_; clear HS; (try clear F); intro w19 HS; (try simp only [hpn, hpm] at HS); have F := HS.boxes; simp only [boxFacts, and_true] at F) | ((with_reducible refine gate_dst (N := 29) rfl ?_); refine ev_callv rfl Tryd.func110 (by kernel_rfl) rfl #[.agg #[.int .i64 ((rd_T65 a0 x5).f0), .string ((rd_T65 a0 x5).f1), .slice B10_2 (rd_T65 a0 x5).f2.length d10_2], .agg #[.int .i64 ((rd_T65 a1 x5).f0), .string ((rd_T65 a1 x5).f1), .slice B16_2 (rd_T65 a1 x5).f2.length d16_2]] #[.agg #[.int .i64 ((rd_T65 a0 x5).f0), .string ((rd_T65 a0 x5).f1), .slice B10_2 (rd_T65 a0 x5).f2.length d10_2], .agg #[.int .i64 ((rd_T65 a1 x5).f0), .string ((rd_T65 a1 x5).f1), .slice B16_2 (rd_T65 a1 x5).f2.length d16_2]] rfl rfl (by simp only [List.map_toArray, List.map_cons, List.map_nil]; rfl) (by first | rfl | simp) ?_; refine (IH (by have := HK0.out; have := HKk4.out; omega) ht21.out (HS.ro y10_2) m10_2 (HS.ro y16_2) m16_2).mono ?_; rintro _ wt21 ⟨rfl, HQ⟩; refine ⟨_, rfl, ?_⟩; replace HS := HS.call HQ; clear HQ; (try clear F); (try simp only [hpn, hpm] at HS); have F := HS.boxes; simp only [boxFacts, and_true] at F))
        by_cases c23 : t21 = true
        · replace H := zpos c23 H
          subst c23
          (try simp only [dcn, if_true, Bool.false_eq_true, if_false])
          go_wp2
          go_roundg k4
          case measure => have := HK0.out; have := HKk4.out; omega
          case rel => exact ⟨_, rfl, H, ⟨by have := HK0.out; have := HKk4.out; omega⟩, HS.pick [] (by decide) (by rfl)⟩
        · replace H := zneg c23 H
          replace c23 := eq_false_of_ne_true c23
          subst c23
          (try simp only [dcn, if_true, Bool.false_eq_true, if_false])
          obtain rfl := zsome H
          go_wp2
          go_ret
          exact ⟨rfl, HS.pick [] (by decide) (by rfl)⟩
      · replace H := zneg c7 H
        replace c7 := eq_false c7
        obtain rfl := zsome H
        go_wp2
        go_ret
        exact ⟨rfl, HS.pick [] (by decide) (by rfl)⟩
  · replace H := zneg c1 H
    have c1a := beq_eq_false_iff_ne.mpr c1
    have c1b := bne_iff_ne.mpr c1
    clear c1
    obtain rfl := zsome H
    go_wp2
    go_ret
    exact ⟨rfl, HS.pick [] (by decide) (by rfl)⟩
set_option maxHeartbeats 16000000 in
theorem impl_SameItem.calls_ (K : Nat) : ∀ {k : Nat} (hK : k ≤ K) {a0 : S65} {a1 : S65} {Ap0 : Option Addr} {np0 cp0 : Nat} {Ap1 : Option Addr} {np1 cp1 : Nat} {r : Bool} {w : World} (h : impl_SameItem.f k a0 a1 = some r) (gp0 : k65.C w Ap0 np0 a0.f2) (lp0 : np0 ≤ cp0) (gp1 : k65.C w Ap1 np1 a1.f2) (lp1 : np1 ≤ cp1),
    Calls Tryd.prog 110 #[.agg #[.int .i64 a0.f0, .string a0.f1, .slice Ap0 np0 cp0], .agg #[.int .i64 a1.f0, .string a1.f1, .slice Ap1 np1 cp1]] w (fun e w' => e = .returned (.bool r) ∧ Hp noFP w w' []) := by
  induction K with
  | zero =>
    intro k hK a0 a1 Ap0 np0 cp0 Ap1 np1 cp1 r w h gp0 lp0 gp1 lp1
    obtain rfl : k = 0 := by omega
    exact absurd h (by simp [impl_SameItem.f])
  | succ K IH =>
    intro k hK a0 a1 Ap0 np0 cp0 Ap1 np1 cp1 r w h gp0 lp0 gp1 lp1
    cases k with
    | zero => exact absurd h (by simp [impl_SameItem.f])
    | succ k =>
    have HK0 : Aside0 (k ≤ K) := ⟨by omega⟩
    clear hK
    obtain rfl := C_len gp0
    obtain rfl := C_len gp1
    have HS := Hp.start w
    have H := Aside0.mk h
    clear h
    simp only [impl_SameItem.f] at H
    go_enter Tryd.func110, Tryd.ntmps110
    by_cases c5 : a0.f0 = a1.f0
    · replace H := zpos c5 H
      have c5a := beq_iff_eq.mpr c5
      have c5b := bne_eq_false_iff_eq.mpr c5
      clear c5
      by_cases c6 : a0.f1.toList = a1.f1.toList
      · replace H := zpos c6 H
        have c6a := beq_iff_eq.mpr c6
        have c6b := bne_eq_false_iff_eq.mpr c6
        clear c6
        replace H := zbind H; obtain ⟨t7, ht7, H⟩ := H
        obtain rfl := zsome H
        go_wp2_with (first | ((with_reducible refine gate_dst (N := 2) rfl ?_); refine ev_box rfl HS (by first | (go_simp; done) | (go_simp; rfl)) rfl ?_; clear HS; (try clear F); intro g2 w2 HS; (try simp only [hpn, hpm] at HS); have F := HS.boxes; simp only [boxFacts, and_true] at F) | ((with_reducible refine gate_dst (N := 3) rfl ?_); refine ev_box rfl HS (by first | (go_simp; done) | (go_simp; rfl)) rfl ?_; clear HS; (try clear F); intro g3 w3 HS; (try simp only [hpn, hpm] at HS); have F := HS.boxes; simp only [boxFacts, and_true] at F) | ((with_reducible refine gate_dst (N := 22) rfl ?_); refine gate_guard (by rfl) ?_; refine ev_call rfl Tryd.func115 (by kernel_rfl) rfl #[.slice Ap0 a0.f2.length cp0, .slice Ap1 a1.f2.length cp1, .func (.func 110) #[] #[]] rfl (by simp only [List.map_toArray, List.map_cons, List.map_nil]; rfl) ?_; refine (impl_SameItem_impl_Item.calls_ IH (by have := HK0.out; omega) ht7.out (HS.ro gp0) lp0 (HS.ro gp1) lp1).mono ?_; rintro _ wt7 ⟨rfl, HQ⟩; refine ⟨_, rfl, ?_⟩; replace HS := HS.call HQ; clear HQ; (try clear F); (try simp only [hpn, hpm] at HS); have F := HS.boxes; simp only [boxFacts, and_true] at F))
        go_ret
        exact ⟨rfl, HS.pick [] (by decide) (by rfl)⟩
      · replace H := zneg c6 H
        have c6a := beq_eq_false_iff_ne.mpr c6
        have c6b := bne_iff_ne.mpr c6
        clear c6
        obtain rfl := zsome H
        go_wp2_with (first | ((with_reducible refine gate_dst (N := 2) rfl ?_); refine ev_box rfl HS (by first | (go_simp; done) | (go_simp; rfl)) rfl ?_; clear HS; (try clear F); intro g2 w2 HS; (try simp only [hpn, hpm] at HS); have F := HS.boxes; simp only [boxFacts, and_true] at F) | ((with_reducible refine gate_dst (N := 3) rfl ?_); refine ev_box rfl HS (by first | (go_simp; done) | (go_simp; rfl)) rfl ?_; clear HS; (try clear F); intro g3 w3 HS; (try simp only [hpn, hpm] at HS); have F := HS.boxes; simp only [boxFacts, and_true] at F))
        go_ret
        exact ⟨rfl, HS.pick [] (by decide) (by rfl)⟩
    · replace H := zneg c5 H
      have c5a := beq_eq_false_iff_ne.mpr c5
      have c5b := bne_iff_ne.mpr c5
      clear c5
      obtain rfl := zsome H
      go_wp2_with (first | ((with_reducible refine gate_dst (N := 2) rfl ?_); refine ev_box rfl HS (by first | (go_simp; done) | (go_simp; rfl)) rfl ?_; clear HS; (try clear F); intro g2 w2 HS; (try simp only [hpn, hpm] at HS); have F := HS.boxes; simp only [boxFacts, and_true] at F) | ((with_reducible refine gate_dst (N := 3) rfl ?_); refine ev_box rfl HS (by first | (go_simp; done) | (go_simp; rfl)) rfl ?_; clear HS; (try clear F); intro g3 w3 HS; (try simp only [hpn, hpm] at HS); have F := HS.boxes; simp only [boxFacts, and_true] at F))
      go_ret
      exact ⟨rfl, HS.pick [] (by decide) (by rfl)⟩
theorem impl_SameItem.calls {k : Nat} {a0 : S65} {a1 : S65} {Ap0 : Option Addr} {np0 cp0 : Nat} {Ap1 : Option Addr} {np1 cp1 : Nat} {r : Bool} {w : World} (h : impl_SameItem.f k a0 a1 = some r) (gp0 : k65.C w Ap0 np0 a0.f2) (lp0 : np0 ≤ cp0) (gp1 : k65.C w Ap1 np1 a1.f2) (lp1 : np1 ≤ cp1) :
    Calls Tryd.prog 110 #[.agg #[.int .i64 a0.f0, .string a0.f1, .slice Ap0 np0 cp0], .agg #[.int .i64 a1.f0, .string a1.f1, .slice Ap1 np1 cp1]] w (fun e w' => e = .returned (.bool r) ∧ Hp noFP w w' []) := impl_SameItem.calls_ k (Nat.le_refl k) h gp0 lp0 gp1 lp1
end Go.Proofs.YtoaoncnbimcdgaaDoor.F
