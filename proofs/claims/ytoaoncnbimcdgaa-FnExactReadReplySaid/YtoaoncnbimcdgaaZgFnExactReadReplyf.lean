/- Functions of the program and of the law, and that their calls do what is written here. -/
import Derived.Test.YtoaoncnbimcdgaaZT
namespace Go.Proofs.Ytoaoncnbimcdgaa.F
open Go.RowKit Go.Proofs.YtoaoncnbimcdgaaW.PrintWords Go.Proofs.YtoaoncnbimcdgaaW.PrintLast Go.Proofs.YtoaoncnbimcdgaaW.PrintMore Go.Proofs.Ytoaoncnbimcdgaa.Z
attribute [local go_sem] max2_int min2_int max_two min_two max_three min_three max_four min_four
set_option linter.unusedVariables false
set_option linter.unusedSimpArgs false
set_option maxRecDepth 100000
/-! ### impl_readLength: function 157 -/
def impl_readLength.l0 : Nat → Int → Int → ByteArray → ByteArray → Option (Int × ByteArray × Bool)
  | 0, _, _, _, _ => none
  | k + 1, x28, x29, a0, y15 => (if x29 < (y15.size : Int) then (if 0 ≤ x29 then (if x29 < (y15.size : Int) then (impl_readLength.l0 k (Go.bits .or .i64 (wrap64 (x28 * 256)) (wrap64 (rd (bytesOf y15) x29))) (wrap64 (x29 + 1)) a0 y15) else none) else none) else (if 0 ≤ (wrap64 (1 + (wrap64 ((wrap64 (bt a0 0)) - 128)))) then (some (x28, (a0.extract ((wrap64 (1 + (wrap64 ((wrap64 (bt a0 0)) - 128))))).toNat a0.size), true)) else none))
def impl_readLength.f (k : Nat) (a0 : ByteArray) : Option (Int × ByteArray × Bool) := (if a0.toList = ([] : List UInt8) then (some (0, (⟨#[]⟩ : ByteArray), false)) else (if 0 < (a0.size : Int) then (if (bt a0 0) < 128 then (if 1 ≤ (a0.size : Int) then (some ((wrap64 (bt a0 0)), (a0.extract 1 a0.size), true)) else none) else (if 4 < (wrap64 ((wrap64 (bt a0 0)) - 128)) then (some (0, (⟨#[]⟩ : ByteArray), false)) else (if (a0.size : Int) < (wrap64 (1 + (wrap64 ((wrap64 (bt a0 0)) - 128)))) then (some (0, (⟨#[]⟩ : ByteArray), false)) else (if 1 ≤ (wrap64 (1 + (wrap64 ((wrap64 (bt a0 0)) - 128)))) then (if (wrap64 (1 + (wrap64 ((wrap64 (bt a0 0)) - 128)))) ≤ (a0.size : Int) then (lets (a0.extract 1 ((wrap64 (1 + (wrap64 ((wrap64 (bt a0 0)) - 128))))).toNat) fun y15 => (if y15.size ≤ 9223372036854775807 then (impl_readLength.l0 k 0 0 a0 y15) else none)) else none) else none)))) else none))
def impl_readLength.T4 : Bool × List (List Nat × List Nat) := (true, [([], []), ([0], [0]), ([1], [1]), ([], []), ([3], [3]), ([2, 0, 1, 2], [2]), ([4, 5, 0, 1, 2, 3, 4, 5], [4]), ([6, 0, 1, 2, 3, 4, 5, 6], [])])
theorem impl_readLength.tT4 : rtab .any (opsOf Try.f157 4) = impl_readLength.T4 := by kernel_rfl
def impl_readLength.T14 : Bool × List (List Nat × List Nat) := (true, [([], []), ([], []), ([], []), ([2], [2]), ([1, 3], [1, 3]), ([0, 0], [0]), ([4, 5, 0, 1, 2, 3, 4, 5], [4]), ([6, 0, 1, 2, 3, 4, 5, 6], [])])
theorem impl_readLength.tT14 : rtab .any (opsOf Try.f157 14) = impl_readLength.T14 := by kernel_rfl
set_option maxHeartbeats 16000000 in
theorem impl_readLength.calls {k : Nat} {a0 : ByteArray} {r1 : Int} {r2 : ByteArray} {r3 : Bool} {w : World} (h : impl_readLength.f k a0 = some (r1, r2, r3)) :
    Calls Try.prog 157 #[.string a0] w (fun e w' => e = .returned (.tuple #[.int .i64 r1, .string r2, .bool r3]) ∧ Hp noFP w w' []) := by
 have HS := Hp.start w
 have H := Aside0.mk h
 clear h
 unfold impl_readLength.f at H
 go_enter Try.func157, Try.ntmps157
 by_cases c1 : a0.toList = ([] : List UInt8)
 · replace H := zpos c1 H
   have c1a := beq_iff_eq.mpr c1
   have c1b := bne_eq_false_iff_eq.mpr c1
   have c1e := List.isEmpty_iff.mpr c1
   clear c1
   obtain ⟨rfl, rfl, rfl⟩ := zsome3 H
   go_wp2
   exact bodyPost_ret (results_list (rs := [.tmp 2, .tmp 3, .tmp 4]) rfl (by simp) (.tmp (.tmp (.tmp .nil)))) rfl ⟨rfl, HS.pick [] (by decide) (by rfl)⟩
 · replace H := zneg c1 H
   have c1a := beq_eq_false_iff_ne.mpr c1
   have c1b := bne_iff_ne.mpr c1
   have c1e := List.isEmpty_eq_false_iff.mpr c1
   clear c1
   by_cases c2 : 0 < (a0.size : Int)
   case neg => exact zno c2 H
   replace H := zpos c2 H
   replace c2 := eq_true c2
   have c2n : (0 < a0.size) = True := eq_true (by have := of_eq_true c2; omega)
   have hx3 : ∀ h : 0 < a0.size, ((a0[0]'h).toNat : Int) = bt a0 0 := bt_at a0 0
   have hz4 : 0 < a0.size := (by have := of_eq_true c2; omega)
   by_cases c5 : (bt a0 0) < 128
   · replace H := zpos c5 H
     replace c5 := eq_true c5
     (try go_wp2)
     have hx101001 : ∀ h : 0 < a0.size, ((a0[0]'h).toNat : Int) = bt a0 0 := bt_at a0 0
     have hz101002 : 0 < a0.size := (by have := of_eq_true c2; omega)
     by_cases c104001 : 1 ≤ (a0.size : Int)
     case neg => exact zno c104001 H
     replace H := zpos c104001 H
     replace c104001 := eq_true c104001
     refine dr_start [] HS #[false, false, false, false, false, false, false, false] (by kernel_rfl) rfl rfl impl_readLength.tT4 (fun w7 HT HS HH => ?_)
     (try clear F)
     refine drq_of [(0, some 14), (1, some 15), (2, some 16), (3, some 17)] ?_
     repeat (first | (refine drq_pure HT (v := ?_) (a' := ?_) rfl rfl (by kernel_rfl) (fun _ _ _ h => h) (.inl ⟨by rfl, ?_⟩) ?_ ?_; rotate_left; (intro w'; go_simp; with_reducible rfl); rotate_left; (simp only [Act.put, List.setIfInBounds_toArray, List.set_cons_zero, List.set_cons_succ, i64_w, i32_w]; rfl)))
     refine drq_end ?_
     refine dr_pure 4 (some 18) HT (v := .string (a0.extract 1 a0.size)) (a' := ?_) rfl rfl (by kernel_rfl) (fun _ _ _ h => h) (.inl ⟨by rfl, fun w' => (run_cut rfl rfl Try.underlying9 (.inr ⟨_, _, rfl, rfl, of_eq_true (eq_true (by decide : (0:Int) ≤ 1))⟩) (.inl ⟨rfl, rfl⟩) (by have := of_eq_true (eq_true (by decide : (0:Int) ≤ 1)); have := of_eq_true c104001; have := of_eq_true (eq_true (Int.le_refl (a0.size : Int))); omega) (by have := of_eq_true (eq_true (by decide : (0:Int) ≤ 1)); have := of_eq_true c104001; have := of_eq_true (eq_true (Int.le_refl (a0.size : Int))); omega))⟩) ?_ ?_
     rotate_left
     · simp only [Act.put, List.setIfInBounds_toArray, List.set_cons_zero, List.set_cons_succ, i64_w, i32_w]; rfl
     refine drq_of [(5, some 2), (6, some 3), (7, some 4)] ?_
     repeat (first | (refine drq_pure HT (v := ?_) (a' := ?_) rfl rfl (by kernel_rfl) (fun _ _ _ h => h) (.inl ⟨by rfl, ?_⟩) ?_ ?_; rotate_left; (intro w'; go_simp; with_reducible rfl); rotate_left; (simp only [Act.put, List.setIfInBounds_toArray, List.set_cons_zero, List.set_cons_succ, i64_w, i32_w]; rfl)))
     refine drq_end ?_
     refine done_ (done_of HT.out (by kernel_rfl)) ?_
     obtain ⟨rfl, rfl, rfl⟩ := zsome3 H
     go_wp2
     exact bodyPost_ret (results_list (rs := [.tmp 2, .tmp 3, .tmp 4]) rfl (by simp) (.tmp (.tmp (.tmp .nil)))) rfl ⟨rfl, HS.pick [] (by decide) (by rfl)⟩
   · replace H := zneg c5 H
     replace c5 := eq_false c5
     have hx9 : ∀ h : 0 < a0.size, ((a0[0]'h).toNat : Int) = bt a0 0 := bt_at a0 0
     have hz10 : 0 < a0.size := (by have := of_eq_true c2; omega)
     by_cases c11 : 4 < (wrap64 ((wrap64 (bt a0 0)) - 128))
     · replace H := zpos c11 H
       replace c11 := eq_true c11
       obtain ⟨rfl, rfl, rfl⟩ := zsome3 H
       go_wp2
       exact bodyPost_ret (results_list (rs := [.tmp 2, .tmp 3, .tmp 4]) rfl (by simp) (.tmp (.tmp (.tmp .nil)))) rfl ⟨rfl, HS.pick [] (by decide) (by rfl)⟩
     · replace H := zneg c11 H
       replace c11 := eq_false c11
       by_cases c12 : (a0.size : Int) < (wrap64 (1 + (wrap64 ((wrap64 (bt a0 0)) - 128))))
       · replace H := zpos c12 H
         replace c12 := eq_true c12
         obtain ⟨rfl, rfl, rfl⟩ := zsome3 H
         go_wp2
         exact bodyPost_ret (results_list (rs := [.tmp 2, .tmp 3, .tmp 4]) rfl (by simp) (.tmp (.tmp (.tmp .nil)))) rfl ⟨rfl, HS.pick [] (by decide) (by rfl)⟩
       · replace H := zneg c12 H
         replace c12 := eq_false c12
         by_cases c13 : 1 ≤ (wrap64 (1 + (wrap64 ((wrap64 (bt a0 0)) - 128))))
         case neg => exact zno c13 H
         replace H := zpos c13 H
         replace c13 := eq_true c13
         by_cases c14 : (wrap64 (1 + (wrap64 ((wrap64 (bt a0 0)) - 128)))) ≤ (a0.size : Int)
         case neg => exact zno c14 H
         replace H := zpos c14 H
         replace c14 := eq_true c14
         replace H := zlets H; obtain ⟨y15, e_y15, H⟩ := H
         by_cases c16 : y15.size ≤ 9223372036854775807
         case neg => exact zno c16 H
         replace H := zpos c16 H
         replace c16 := eq_true c16
         go_wp2_with (first | ((with_reducible refine gate_dst (N := 35) rfl ?_); refine ev_val rfl (run_cut rfl rfl Try.underlying9 (.inr ⟨_, _, rfl, rfl, of_eq_true (eq_true (by decide : (0:Int) ≤ 1))⟩) (.inr ⟨_, _, rfl, rfl, by have := of_eq_true (eq_true (by decide : (0:Int) ≤ 1)); have := of_eq_true c13; have := of_eq_true c14; omega⟩) (by have := of_eq_true (eq_true (by decide : (0:Int) ≤ 1)); have := of_eq_true c13; have := of_eq_true c14; omega) (by have := of_eq_true (eq_true (by decide : (0:Int) ≤ 1)); have := of_eq_true c13; have := of_eq_true c14; omega)) ?_) | ((with_reducible refine gate_dst (N := 36) rfl ?_); refine ev_bytes rfl HS rfl (s := y15) (by rw [e_y15.out]; rfl) Try.underlying9 Try.underlying210 Try.underlying5 (of_eq_true c16) ?_; clear HS; (try clear F); intro v15 w15 HS; obtain ⟨B15, d15, rfl, m15⟩ := HS.vformb 0 rfl; (try simp only [hpn, hpm] at HS)))
         go_loopg [6, 38] k (fun kq v_6 v_38 w' => ∃ (x28 : Int) (x29 : Int), v_6 = .int .i64 x28 ∧ v_38 = .int .i64 x29 ∧ Aside0 (impl_readLength.l0 kq x28 x29 a0 y15 = some (r1, r2, r3)) ∧ Aside0 (kq ≤ k) ∧ Hp noFP w w' [.own (Zd.view 5 (Zd.int .u8)) (bytesOf y15) [.slice B15 y15.size d15]])
         case atStart => exact ⟨_, _, rfl, rfl, H, ⟨Nat.le_refl _⟩, HS⟩
         case round =>
          clear HS H; (try clear F)
          obtain ⟨x28, x29, rfl, rfl, H, HKk27, HS⟩ := hrel
          cases gk with
          | zero => exact absurd H.out (by simp [impl_readLength.l0])
          | succ k27 =>
           simp only [impl_readLength.l0] at H
           by_cases c31 : x29 < (y15.size : Int)
           · replace H := zpos c31 H
             replace c31 := eq_true c31
             by_cases c32 : 0 ≤ x29
             case neg => exact zno c32 H
             replace H := zpos c32 H
             replace c32 := eq_true c32
             by_cases c33 : x29 < (y15.size : Int)
             case neg => exact zno c33 H
             replace H := zpos c33 H
             replace c33 := eq_true c33
             obtain ⟨ad34, rfl, e34_0⟩ := Kd.at_int (HS.vrd 0 rfl) x29 (of_eq_true c32) (of_eq_true c33)
             go_wp2
             go_roundg k27
             case measure => have := HKk27.out; omega
             case rel => exact ⟨_, _, rfl, rfl, H, ⟨by have := HKk27.out; omega⟩, HS.pick [0] (by decide) (by rfl)⟩
           · replace H := zneg c31 H
             replace c31 := eq_false c31
             (try go_wp2)
             by_cases c204001 : 0 ≤ (wrap64 (1 + (wrap64 ((wrap64 (bt a0 0)) - 128))))
             case neg => exact zno c204001 H
             replace H := zpos c204001 H
             replace c204001 := eq_true c204001
             refine dr_start [] HS #[false, false, false, false, false, false, false, false] (by kernel_rfl) rfl rfl impl_readLength.tT14 (fun w36 HT HS HH => ?_)
             (try clear F)
             refine drq_of [(0, some 48), (1, some 49), (2, some 50), (3, some 51)] ?_
             repeat (first | (refine drq_pure HT (v := ?_) (a' := ?_) rfl rfl (by kernel_rfl) (fun _ _ _ h => h) (.inl ⟨by rfl, ?_⟩) ?_ ?_; rotate_left; (intro w'; go_simp; with_reducible rfl); rotate_left; (simp only [Act.put, List.setIfInBounds_toArray, List.set_cons_zero, List.set_cons_succ, i64_w, i32_w]; rfl)))
             refine drq_end ?_
             refine dr_pure 4 (some 52) HT (v := .string (a0.extract ((wrap64 (1 + (wrap64 ((wrap64 (bt a0 0)) - 128))))).toNat a0.size)) (a' := ?_) rfl rfl (by kernel_rfl) (fun _ _ _ h => h) (.inl ⟨by rfl, fun w' => (run_cut rfl rfl Try.underlying9 (.inr ⟨_, _, rfl, rfl, of_eq_true c204001⟩) (.inl ⟨rfl, rfl⟩) (by have := of_eq_true c204001; have := of_eq_true c14; have := of_eq_true (eq_true (Int.le_refl (a0.size : Int))); omega) (by have := of_eq_true c204001; have := of_eq_true c14; have := of_eq_true (eq_true (Int.le_refl (a0.size : Int))); omega))⟩) ?_ ?_
             rotate_left
             · simp only [Act.put, List.setIfInBounds_toArray, List.set_cons_zero, List.set_cons_succ, i64_w, i32_w]; rfl
             refine drq_of [(5, some 2), (6, some 3), (7, some 4)] ?_
             repeat (first | (refine drq_pure HT (v := ?_) (a' := ?_) rfl rfl (by kernel_rfl) (fun _ _ _ h => h) (.inl ⟨by rfl, ?_⟩) ?_ ?_; rotate_left; (intro w'; go_simp; with_reducible rfl); rotate_left; (simp only [Act.put, List.setIfInBounds_toArray, List.set_cons_zero, List.set_cons_succ, i64_w, i32_w]; rfl)))
             refine drq_end ?_
             refine done_ (done_of HT.out (by kernel_rfl)) ?_
             obtain ⟨rfl, rfl, rfl⟩ := zsome3 H
             go_wp2
             exact bodyPost_ret (results_list (rs := [.tmp 2, .tmp 3, .tmp 4]) rfl (by simp) (.tmp (.tmp (.tmp .nil)))) rfl ⟨rfl, HS.pick [] (by decide) (by rfl)⟩
/-! ### impl_readItem: function 117 -/
mutual
def impl_readItem.l0 : Nat → (List S100) → ByteArray → ByteArray → Int → Int × ByteArray × Bool → Option (S100 × ByteArray × Bool)
  | 0, _, _, _, _, _ => none
  | k + 1, l53, x55, a0, a1, t17 => (if x55.toList = ([] : List UInt8) then (some ((⟨(wrap64 (bt a0 0)), (⟨#[]⟩ : ByteArray), l53⟩ : S100), (t17.2.1.extract (t17.1).toNat t17.2.1.size), true)) else ((impl_readItem.f k x55 (wrap64 (a1 + 1))).bind fun t60 => (if t60.2.2 = true then (if l53.length + 1 ≤ 2932031007402 then (lets (l53 ++ ([t60.1] : List S100)) fun y71 => (impl_readItem.l0 k y71 t60.2.1 a0 a1 t17)) else none) else (some ((⟨0, (⟨#[]⟩ : ByteArray), ([] : List S100)⟩ : S100), (⟨#[]⟩ : ByteArray), false)))))
def impl_readItem.f : Nat → ByteArray → Int → Option (S100 × ByteArray × Bool)
  | 0, _, _ => none
  | k + 1, a0, a1 => (if a0.toList = ([] : List UInt8) then (some ((⟨0, (⟨#[]⟩ : ByteArray), ([] : List S100)⟩ : S100), (⟨#[]⟩ : ByteArray), false)) else (if 6 < a1 then (some ((⟨0, (⟨#[]⟩ : ByteArray), ([] : List S100)⟩ : S100), (⟨#[]⟩ : ByteArray), false)) else (if 0 < (a0.size : Int) then (if 1 ≤ (a0.size : Int) then ((impl_readLength.f k (a0.extract 1 a0.size)).bind fun t17 => (if t17.2.2 = true then (if (t17.2.1.size : Int) < t17.1 then (some ((⟨0, (⟨#[]⟩ : ByteArray), ([] : List S100)⟩ : S100), (⟨#[]⟩ : ByteArray), false)) else (if 0 ≤ t17.1 then (if t17.1 ≤ (t17.2.1.size : Int) then (if (wrap64 (bt a0 0)) = 48 then (impl_readItem.l0 k [] (t17.2.1.extract 0 (t17.1).toNat) a0 a1 t17) else (some ((⟨(wrap64 (bt a0 0)), (t17.2.1.extract 0 (t17.1).toNat), ([] : List S100)⟩ : S100), (t17.2.1.extract (t17.1).toNat t17.2.1.size), true))) else none) else none)) else (some ((⟨0, (⟨#[]⟩ : ByteArray), ([] : List S100)⟩ : S100), (⟨#[]⟩ : ByteArray), false)))) else none) else none)))
end
def impl_readItem.T7 : Bool × List (List Nat × List Nat) := (true, [([], []), ([], []), ([0, 1], [0, 1]), ([], []), ([], []), ([3, 4], [3, 4]), ([2, 0, 1, 2], [2]), ([5, 6, 0, 1, 2, 3, 4, 5, 6], [0, 3, 5])])
theorem impl_readItem.tT7 : rtab .any (opsOf Try.f117 7) = impl_readItem.T7 := by kernel_rfl
set_option maxHeartbeats 16000000 in
theorem impl_readItem.calls_ (K : Nat) : ∀ {k : Nat} (hK : k ≤ K) {a0 : ByteArray} {a1 : Int} {r1 : S100} {r2 : ByteArray} {r3 : Bool} {w : World} (h : impl_readItem.f k a0 a1 = some (r1, r2, r3)),
    Calls Try.prog 117 #[.string a0, .int .i64 a1] w (fun e w' => ∃ v0_ : Value, e = .returned (.tuple #[.agg #[.int .i64 r1.f0, .string r1.f1, v0_], .string r2, .bool r3]) ∧ Hp noFP w w' [.own (Zd.slice 100 q100) r1.f2 [v0_]]) := by
  induction K with
  | zero =>
    intro k hK a0 a1 r1 r2 r3 w h
    obtain rfl : k = 0 := by omega
    exact absurd h (by simp [impl_readItem.f])
  | succ K IH =>
    intro k hK a0 a1 r1 r2 r3 w h
    cases k with
    | zero => exact absurd h (by simp [impl_readItem.f])
    | succ k =>
    have HK0 : Aside0 (k ≤ K) := ⟨by omega⟩
    clear hK
    have HS := Hp.start w
    have H := Aside0.mk h
    clear h
    simp only [impl_readItem.f] at H
    go_enter Try.func117, Try.ntmps117
    by_cases c3 : a0.toList = ([] : List UInt8)
    · replace H := zpos c3 H
      have c3a := beq_iff_eq.mpr c3
      have c3b := bne_eq_false_iff_eq.mpr c3
      have c3e := List.isEmpty_iff.mpr c3
      clear c3
      obtain ⟨rfl, rfl, rfl⟩ := zsome3 H
      go_wp2_with (first | ((with_reducible refine gate_dst (N := 4) rfl ?_); refine ev_box rfl HS (by first | (go_simp; done) | (go_simp; rfl)) rfl ?_; clear HS; (try clear F); intro g4 w4 HS; (try simp only [hpn, hpm] at HS); have F := HS.boxes; simp only [boxFacts, and_true] at F) | ((with_reducible refine gate_store (p := 4) rfl ?_); refine ev_store rfl 0 0 HS (seg := [.int .i64 0, .string (⟨#[]⟩ : ByteArray), .slice none 0 0]) rfl rfl rfl rfl rfl rfl (by kernel_rfl) (by simp [wrt]) (by simp [Value.oneCell']) ?_; clear HS; (try clear F); intro w4 HS; (try simp only [hpn, hpm] at HS); have F := HS.boxes; simp only [boxFacts, and_true] at F))
      replace HS := HS.nil 100 q100
      exact bodyPost_ret (results_list (rs := [.cell 4 100, .tmp 5, .tmp 6]) rfl (by simp) (.cell _ _ _ _ _ rfl (HS.boxAt (i := 0) rfl) Try.underlying100 rfl (by kernel_rfl) (.tmp (.tmp .nil)))) rfl ⟨_, rfl, HS.pick [1] (by decide) (by rfl)⟩
    · replace H := zneg c3 H
      have c3a := beq_eq_false_iff_ne.mpr c3
      have c3b := bne_iff_ne.mpr c3
      have c3e := List.isEmpty_eq_false_iff.mpr c3
      clear c3
      go_upto_if 20 with (first | ((with_reducible refine gate_dst (N := 4) rfl ?_); refine ev_box rfl HS (by first | (go_simp; done) | (go_simp; rfl)) rfl ?_; clear HS; (try clear F); intro g4 w4 HS; (try simp only [hpn, hpm] at HS); have F := HS.boxes; simp only [boxFacts, and_true] at F))
      by_cases c6 : 6 < a1
      · replace H := zpos c6 H
        replace c6 := eq_true c6
        (try simp only [c6, dcn])
        obtain ⟨rfl, rfl, rfl⟩ := zsome3 H
        go_wp2_with (first | ((with_reducible refine gate_store (p := 4) rfl ?_); refine ev_store rfl 0 0 HS (seg := [.int .i64 0, .string (⟨#[]⟩ : ByteArray), .slice none 0 0]) rfl rfl rfl rfl rfl rfl (by kernel_rfl) (by simp [wrt]) (by simp [Value.oneCell']) ?_; clear HS; (try clear F); intro w7 HS; (try simp only [hpn, hpm] at HS); have F := HS.boxes; simp only [boxFacts, and_true] at F))
        replace HS := HS.nil 100 q100
        exact bodyPost_ret (results_list (rs := [.cell 4 100, .tmp 5, .tmp 6]) rfl (by simp) (.cell _ _ _ _ _ rfl (HS.boxAt (i := 0) rfl) Try.underlying100 rfl (by kernel_rfl) (.tmp (.tmp .nil)))) rfl ⟨_, rfl, HS.pick [1] (by decide) (by rfl)⟩
      · replace H := zneg c6 H
        replace c6 := eq_false c6
        (try simp only [c6, dcn])
        by_cases c9 : 0 < (a0.size : Int)
        case neg => exact zno c9 H
        replace H := zpos c9 H
        replace c9 := eq_true c9
        have c9n : (0 < a0.size) = True := eq_true (by have := of_eq_true c9; omega)
        have hx10 : ∀ h : 0 < a0.size, ((a0[0]'h).toNat : Int) = bt a0 0 := bt_at a0 0
        have hz11 : 0 < a0.size := (by have := of_eq_true c9; omega)
        by_cases c16 : 1 ≤ (a0.size : Int)
        case neg => exact zno c16 H
        replace H := zpos c16 H
        replace c16 := eq_true c16
        replace H := zbind H; obtain ⟨t17, ht17, H⟩ := H
        by_cases c19 : t17.2.2 = true
        · replace H := zpos c19 H
          go_upto_if 40 with (first | ((with_reducible refine gate_dst (N := 7) rfl ?_); refine ev_box rfl HS (by first | (go_simp; done) | (go_simp; rfl)) rfl ?_; clear HS; (try clear F); intro g7 w7 HS; (try simp only [hpn, hpm] at HS); have F := HS.boxes; simp only [boxFacts, and_true] at F) | ((with_reducible refine gate_store (p := 7) rfl ?_); refine ev_store rfl 1 0 HS (seg := [.int .i64 (wrap64 (bt a0 0)), .string (⟨#[]⟩ : ByteArray), .slice none 0 0]) rfl rfl rfl rfl rfl rfl (by kernel_rfl) (by simp [wrt]) (by simp [Value.oneCell']) ?_; clear HS; (try clear F); intro w14 HS; (try simp only [hpn, hpm] at HS); have F := HS.boxes; simp only [boxFacts, and_true] at F) | ((with_reducible refine gate_dst (N := 28) rfl ?_); refine ev_val rfl (run_cut rfl rfl Try.underlying9 (.inr ⟨_, _, rfl, rfl, of_eq_true (eq_true (by decide : (0:Int) ≤ 1))⟩) (.inl ⟨rfl, rfl⟩) (by have := of_eq_true (eq_true (by decide : (0:Int) ≤ 1)); have := of_eq_true c16; have := of_eq_true (eq_true (Int.le_refl (a0.size : Int))); omega) (by have := of_eq_true (eq_true (by decide : (0:Int) ≤ 1)); have := of_eq_true c16; have := of_eq_true (eq_true (Int.le_refl (a0.size : Int))); omega)) ?_) | ((with_reducible refine gate_dst (N := 29) rfl ?_); refine ev_call rfl Try.func157 (by kernel_rfl) rfl #[.string (a0.extract 1 a0.size)] rfl (by simp only [List.map_toArray, List.map_cons, List.map_nil]; rfl) ?_; refine (impl_readLength.calls ht17.out).mono ?_; rintro _ wt17 ⟨rfl, HQ⟩; refine ⟨_, rfl, ?_⟩; replace HS := HS.call HQ; clear HQ; (try clear F); (try simp only [hpn, hpm] at HS); have F := HS.boxes; simp only [boxFacts, and_true] at F; (try simp only [c19])))
          by_cases c20 : (t17.2.1.size : Int) < t17.1
          · replace H := zpos c20 H
            replace c20 := eq_true c20
            (try simp only [c20, dcn])
            obtain ⟨rfl, rfl, rfl⟩ := zsome3 H
            go_wp2_with (first | ((with_reducible refine gate_store (p := 4) rfl ?_); refine ev_store rfl 0 0 HS (seg := [.int .i64 0, .string (⟨#[]⟩ : ByteArray), .slice none 0 0]) rfl rfl rfl rfl rfl rfl (by kernel_rfl) (by simp [wrt]) (by simp [Value.oneCell']) ?_; clear HS; (try clear F); intro w21 HS; (try simp only [hpn, hpm] at HS); have F := HS.boxes; simp only [boxFacts, and_true] at F))
            replace HS := HS.nil 100 q100
            exact bodyPost_ret (results_list (rs := [.cell 4 100, .tmp 5, .tmp 6]) rfl (by simp) (.cell _ _ _ _ _ rfl (HS.boxAt (i := 0) rfl) Try.underlying100 rfl (by kernel_rfl) (.tmp (.tmp .nil)))) rfl ⟨_, rfl, HS.pick [2] (by decide) (by rfl)⟩
          · replace H := zneg c20 H
            replace c20 := eq_false c20
            (try simp only [c20, dcn])
            (try go_wp2)
            by_cases c102001 : 0 ≤ t17.1
            case neg => exact zno c102001 H
            replace H := zpos c102001 H
            replace c102001 := eq_true c102001
            by_cases c102002 : t17.1 ≤ (t17.2.1.size : Int)
            case neg => exact zno c102002 H
            replace H := zpos c102002 H
            replace c102002 := eq_true c102002
            refine dr_start [] HS #[false, false, false, false, false, false, false, false] (by kernel_rfl) rfl rfl impl_readItem.tT7 (fun w24 HT HS HH => ?_)
            (try clear F)
            refine drq_of [(0, some 42), (1, some 43)] ?_
            repeat (first | (refine drq_pure HT (v := ?_) (a' := ?_) rfl rfl (by kernel_rfl) (fun _ _ _ h => h) (.inl ⟨by rfl, ?_⟩) ?_ ?_; rotate_left; (intro w'; go_simp; with_reducible rfl); rotate_left; (simp only [Act.put, List.setIfInBounds_toArray, List.set_cons_zero, List.set_cons_succ, i64_w, i32_w]; rfl)))
            refine drq_end ?_
            refine dr_pure 2 (some 44) HT (v := .string (t17.2.1.extract 0 (t17.1).toNat)) (a' := ?_) rfl rfl (by kernel_rfl) (fun _ _ _ h => h) (.inl ⟨by rfl, fun w' => (run_cut rfl rfl Try.underlying9 (.inl ⟨rfl, rfl⟩) (.inr ⟨_, _, rfl, rfl, by have := of_eq_true (eq_true (by decide : (0:Int) ≤ 0)); have := of_eq_true c102001; have := of_eq_true c102002; omega⟩) (by have := of_eq_true (eq_true (by decide : (0:Int) ≤ 0)); have := of_eq_true c102001; have := of_eq_true c102002; omega) (by have := of_eq_true (eq_true (by decide : (0:Int) ≤ 0)); have := of_eq_true c102001; have := of_eq_true c102002; omega))⟩) ?_ ?_
            rotate_left
            · simp only [Act.put, List.setIfInBounds_toArray, List.set_cons_zero, List.set_cons_succ, i64_w, i32_w]; rfl
            refine drq_of [(3, some 45), (4, some 46)] ?_
            repeat (first | (refine drq_pure HT (v := ?_) (a' := ?_) rfl rfl (by kernel_rfl) (fun _ _ _ h => h) (.inl ⟨by rfl, ?_⟩) ?_ ?_; rotate_left; (intro w'; go_simp; with_reducible rfl); rotate_left; (simp only [Act.put, List.setIfInBounds_toArray, List.set_cons_zero, List.set_cons_succ, i64_w, i32_w]; rfl)))
            refine drq_end ?_
            refine dr_pure 5 (some 47) HT (v := .string (t17.2.1.extract (t17.1).toNat t17.2.1.size)) (a' := ?_) rfl rfl (by kernel_rfl) (fun _ _ _ h => h) (.inl ⟨by rfl, fun w' => (run_cut rfl rfl Try.underlying9 (.inr ⟨_, _, rfl, rfl, of_eq_true c102001⟩) (.inl ⟨rfl, rfl⟩) (by have := of_eq_true c102001; have := of_eq_true c102002; have := of_eq_true (eq_true (Int.le_refl (t17.2.1.size : Int))); omega) (by have := of_eq_true c102001; have := of_eq_true c102002; have := of_eq_true (eq_true (Int.le_refl (t17.2.1.size : Int))); omega))⟩) ?_ ?_
            rotate_left
            · simp only [Act.put, List.setIfInBounds_toArray, List.set_cons_zero, List.set_cons_succ, i64_w, i32_w]; rfl
            refine drq_of [(6, some 11), (7, some 9)] ?_
            repeat (first | (refine drq_pure HT (v := ?_) (a' := ?_) rfl rfl (by kernel_rfl) (fun _ _ _ h => h) (.inl ⟨by rfl, ?_⟩) ?_ ?_; rotate_left; (intro w'; go_simp; with_reducible rfl); rotate_left; (simp only [Act.put, List.setIfInBounds_toArray, List.set_cons_zero, List.set_cons_succ, i64_w, i32_w]; rfl)))
            refine drq_end ?_
            refine done_ (done_of HT.out (by kernel_rfl)) ?_
            (try clear F)
            have F := HS.boxes; simp only [boxFacts, and_true] at F
            by_cases c26 : (wrap64 (bt a0 0)) = 48
            · replace H := zpos c26 H
              have c26a := beq_iff_eq.mpr c26
              have c26b := bne_eq_false_iff_eq.mpr c26
              clear c26
              (try simp only [c26a, c26b, dcn])
              go_wp2
              replace HS := HS.nil 100 q100
              go_loopg [11] k (fun kq v_11 w' => ∃ (l53 : List S100) (v54 : Value) (x55 : ByteArray), v_11 = .string x55 ∧ Aside0 (impl_readItem.l0 kq l53 x55 a0 a1 t17 = some (r1, r2, r3)) ∧ Aside0 (kq ≤ k) ∧ Hp noFP w w' [.box g4 [.int .i64 0, .string (⟨#[]⟩ : ByteArray), .slice none 0 0] 100, .box g7 [.int .i64 (wrap64 (bt a0 0)), .string (⟨#[]⟩ : ByteArray), v54] 100, .own (Zd.slice 100 q100) l53 [v54]])
              case atStart => exact ⟨_, _, _, rfl, H, ⟨Nat.le_refl _⟩, HS⟩
              case round =>
               clear HS H; (try clear F)
               obtain ⟨l53, v54, x55, rfl, H, HKk52, HS⟩ := hrel
               obtain ⟨B54, d54, rfl, m54⟩ := HS.form 2 rfl
               have F := HS.boxes; simp only [boxFacts, and_true] at F
               cases gk with
               | zero => exact absurd H.out (by simp [impl_readItem.l0])
               | succ k52 =>
                simp only [impl_readItem.l0] at H
                by_cases c57 : x55.toList = ([] : List UInt8)
                · replace H := zpos c57 H
                  have c57a := beq_iff_eq.mpr c57
                  have c57b := bne_eq_false_iff_eq.mpr c57
                  have c57e := List.isEmpty_iff.mpr c57
                  clear c57
                  obtain ⟨rfl, rfl, rfl⟩ := zsome3 H
                  go_wp2_with (first | ((with_reducible refine gate_store (p := 4) rfl ?_); refine ev_store rfl 0 0 HS (seg := [.int .i64 (wrap64 (bt a0 0)), .string (⟨#[]⟩ : ByteArray), .slice B54 l53.length d54]) rfl rfl rfl rfl rfl rfl (by kernel_rfl) (by simp [wrt]) (by simp [Value.oneCell']) ?_; clear HS; (try clear F); intro w58 HS; (try simp only [hpn, hpm] at HS); have F := HS.boxes; simp only [boxFacts, and_true] at F))
                  exact bodyPost_ret (results_list (rs := [.cell 4 100, .tmp 5, .tmp 6]) rfl (by simp) (.cell _ _ _ _ _ rfl (HS.boxAt (i := 0) rfl) Try.underlying100 rfl (by kernel_rfl) (.tmp (.tmp .nil)))) rfl ⟨_, rfl, HS.pick [2] (by decide) (by rfl)⟩
                · replace H := zneg c57 H
                  have c57a := beq_eq_false_iff_ne.mpr c57
                  have c57b := bne_iff_ne.mpr c57
                  have c57e := List.isEmpty_eq_false_iff.mpr c57
                  clear c57
                  replace H := zbind H; obtain ⟨t60, ht60, H⟩ := H
                  go_upto_if 66 with (first | ((with_reducible refine gate_dst (N := 61) rfl ?_); refine ev_call rfl Try.func117 (by kernel_rfl) rfl #[.string x55, .int .i64 (wrap64 (a1 + 1))] rfl (by simp only [List.map_toArray, List.map_cons, List.map_nil]; rfl) ?_; refine (IH (by have := HK0.out; have := HKk52.out; omega) ht60.out).mono ?_; rintro _ wt60 ⟨v61, rfl, HQ⟩; refine ⟨_, rfl, ?_⟩; replace HS := HS.call HQ; clear HQ; (try clear F); obtain ⟨B61, d61, rfl, m61⟩ := HS.form 3 rfl; (try simp only [hpn, hpm] at HS); have F := HS.boxes; simp only [boxFacts, and_true] at F) | ((with_reducible refine gate_dst (N := 12) rfl ?_); refine ev_box rfl HS (by first | (go_simp; done) | (go_simp; rfl)) rfl ?_; clear HS; (try clear F); intro g12 w12 HS; (try simp only [hpn, hpm] at HS); have F := HS.boxes; simp only [boxFacts, and_true] at F) | ((with_reducible refine gate_store (p := 12) rfl ?_); refine ev_store rfl 4 0 HS (seg := [.int .i64 t60.1.f0, .string t60.1.f1, .slice B61 t60.1.f2.length d61]) rfl rfl rfl rfl rfl rfl (by kernel_rfl) (by simp [wrt]) (by simp [Value.oneCell']) ?_; clear HS; (try clear F); intro w65 HS; (try simp only [hpn, hpm] at HS); have F := HS.boxes; simp only [boxFacts, and_true] at F))
                  by_cases c67 : t60.2.2 = true
                  · replace H := zpos c67 H
                    (try simp only [c67, dcn])
                    by_cases c70 : l53.length + 1 ≤ 2932031007402
                    case neg => exact zno c70 H
                    replace H := zpos c70 H
                    replace c70 := eq_true c70
                    replace H := zlets H; obtain ⟨y71, e_y71, H⟩ := H
                    go_wp2_with (first | ((with_reducible refine gate_dst (N := 71) rfl ?_); refine ev_lit rfl q100 [3] ([t60.1] : List S100) ([.int .i64 t60.1.f0, .string t60.1.f1, .slice B61 t60.1.f2.length d61] ++ []) HS (by first | (go_simp; done) | (go_simp; rfl)) rfl rfl (Nat.le_of_ble_eq_true rfl) (MadeL.cons (js1 := [3]) (c := [.int .i64 t60.1.f0, .string t60.1.f1, .slice B61 t60.1.f2.length d61]) rfl (fun S hd hh => q100_pack (x := t60.1) hd (hh 3 (.own (Zd.slice 100 q100) t60.1.f2 [.slice B61 t60.1.f2.length d61]) rfl) (by decide)) MadeL.nil (by decide)) ?_; clear HS; (try clear F); intro v68 w68 HS; obtain ⟨B68, d68, rfl, m68⟩ := HS.formn 1 5 rfl rfl; (try simp only [hpn, hpm] at HS); have F := HS.boxes; simp only [boxFacts, and_true] at F) | ((with_reducible refine gate_dst (N := 72) rfl ?_); refine ev_append rfl q100 2 5 HS rfl rfl (by decide) rfl rfl rfl Try.underlying98 info100 rfl (by decide) (by decide) (by have := of_eq_true c70; first | omega | (simp only [List.length_cons, List.length_nil, List.length_append, Nat.zero_add] at this ⊢; omega)) ?_; clear HS; (try clear F); intro v71 w71 HS; rw [← e_y71.out] at HS; obtain ⟨B71, d71, rfl, m71⟩ := HS.form 6 rfl; (try simp only [hpn, hpm] at HS); have F := HS.boxes; simp only [boxFacts, and_true] at F) | ((with_reducible refine gate_store (p := 73) rfl ?_); refine ev_store rfl 1 2 HS (seg := [.slice B71 y71.length d71]) rfl rfl rfl rfl rfl rfl (by kernel_rfl) (by simp [wrt]) (by simp [Value.oneCell']) ?_; clear HS; (try clear F); intro w73 HS; (try simp only [hpn, hpm] at HS); have F := HS.boxes; simp only [boxFacts, and_true] at F))
                    go_roundg k52
                    case measure => have := HK0.out; have := HKk52.out; omega
                    case rel => exact ⟨_, _, _, rfl, H, ⟨by have := HK0.out; have := HKk52.out; omega⟩, HS.pick [0, 1, 6] (by decide) (by rfl)⟩
                  · replace H := zneg c67 H
                    replace c67 := eq_false_of_ne_true c67
                    (try simp only [c67, dcn])
                    obtain ⟨rfl, rfl, rfl⟩ := zsome3 H
                    go_wp2_with (first | ((with_reducible refine gate_store (p := 4) rfl ?_); refine ev_store rfl 0 0 HS (seg := [.int .i64 0, .string (⟨#[]⟩ : ByteArray), .slice none 0 0]) rfl rfl rfl rfl rfl rfl (by kernel_rfl) (by simp [wrt]) (by simp [Value.oneCell']) ?_; clear HS; (try clear F); intro w75 HS; (try simp only [hpn, hpm] at HS); have F := HS.boxes; simp only [boxFacts, and_true] at F))
                    replace HS := HS.nil 100 q100
                    exact bodyPost_ret (results_list (rs := [.cell 4 100, .tmp 5, .tmp 6]) rfl (by simp) (.cell _ _ _ _ _ rfl (HS.boxAt (i := 0) rfl) Try.underlying100 rfl (by kernel_rfl) (.tmp (.tmp .nil)))) rfl ⟨_, rfl, HS.pick [5] (by decide) (by rfl)⟩
            · replace H := zneg c26 H
              have c26a := beq_eq_false_iff_ne.mpr c26
              have c26b := bne_iff_ne.mpr c26
              clear c26
              (try simp only [c26a, c26b, dcn])
              obtain ⟨rfl, rfl, rfl⟩ := zsome3 H
              go_wp2_with (first | ((with_reducible refine gate_store (p := 52) rfl ?_); refine ev_store rfl 1 1 HS (seg := [.string (t17.2.1.extract 0 (t17.1).toNat)]) rfl rfl rfl rfl rfl rfl (by kernel_rfl) (by simp [wrt]) (by simp [Value.oneCell']) ?_; clear HS; (try clear F); intro w77 HS; (try simp only [hpn, hpm] at HS); have F := HS.boxes; simp only [boxFacts, and_true] at F) | ((with_reducible refine gate_store (p := 4) rfl ?_); refine ev_store rfl 0 0 HS (seg := [.int .i64 (wrap64 (bt a0 0)), .string (t17.2.1.extract 0 (t17.1).toNat), .slice none 0 0]) rfl rfl rfl rfl rfl rfl (by kernel_rfl) (by simp [wrt]) (by simp [Value.oneCell']) ?_; clear HS; (try clear F); intro w79 HS; (try simp only [hpn, hpm] at HS); have F := HS.boxes; simp only [boxFacts, and_true] at F))
              replace HS := HS.nil 100 q100
              exact bodyPost_ret (results_list (rs := [.cell 4 100, .tmp 5, .tmp 6]) rfl (by simp) (.cell _ _ _ _ _ rfl (HS.boxAt (i := 0) rfl) Try.underlying100 rfl (by kernel_rfl) (.tmp (.tmp .nil)))) rfl ⟨_, rfl, HS.pick [2] (by decide) (by rfl)⟩
        · replace H := zneg c19 H
          replace c19 := eq_false_of_ne_true c19
          obtain ⟨rfl, rfl, rfl⟩ := zsome3 H
          go_wp2_with (first | ((with_reducible refine gate_dst (N := 7) rfl ?_); refine ev_box rfl HS (by first | (go_simp; done) | (go_simp; rfl)) rfl ?_; clear HS; (try clear F); intro g7 w7 HS; (try simp only [hpn, hpm] at HS); have F := HS.boxes; simp only [boxFacts, and_true] at F) | ((with_reducible refine gate_store (p := 7) rfl ?_); refine ev_store rfl 1 0 HS (seg := [.int .i64 (wrap64 (bt a0 0)), .string (⟨#[]⟩ : ByteArray), .slice none 0 0]) rfl rfl rfl rfl rfl rfl (by kernel_rfl) (by simp [wrt]) (by simp [Value.oneCell']) ?_; clear HS; (try clear F); intro w14 HS; (try simp only [hpn, hpm] at HS); have F := HS.boxes; simp only [boxFacts, and_true] at F) | ((with_reducible refine gate_dst (N := 28) rfl ?_); refine ev_val rfl (run_cut rfl rfl Try.underlying9 (.inr ⟨_, _, rfl, rfl, of_eq_true (eq_true (by decide : (0:Int) ≤ 1))⟩) (.inl ⟨rfl, rfl⟩) (by have := of_eq_true (eq_true (by decide : (0:Int) ≤ 1)); have := of_eq_true c16; have := of_eq_true (eq_true (Int.le_refl (a0.size : Int))); omega) (by have := of_eq_true (eq_true (by decide : (0:Int) ≤ 1)); have := of_eq_true c16; have := of_eq_true (eq_true (Int.le_refl (a0.size : Int))); omega)) ?_) | ((with_reducible refine gate_dst (N := 29) rfl ?_); refine ev_call rfl Try.func157 (by kernel_rfl) rfl #[.string (a0.extract 1 a0.size)] rfl (by simp only [List.map_toArray, List.map_cons, List.map_nil]; rfl) ?_; refine (impl_readLength.calls ht17.out).mono ?_; rintro _ wt17 ⟨rfl, HQ⟩; refine ⟨_, rfl, ?_⟩; replace HS := HS.call HQ; clear HQ; (try clear F); (try simp only [hpn, hpm] at HS); have F := HS.boxes; simp only [boxFacts, and_true] at F; (try simp only [c19])) | ((with_reducible refine gate_store (p := 4) rfl ?_); refine ev_store rfl 0 0 HS (seg := [.int .i64 0, .string (⟨#[]⟩ : ByteArray), .slice none 0 0]) rfl rfl rfl rfl rfl rfl (by kernel_rfl) (by simp [wrt]) (by simp [Value.oneCell']) ?_; clear HS; (try clear F); intro w81 HS; (try simp only [hpn, hpm] at HS); have F := HS.boxes; simp only [boxFacts, and_true] at F))
          replace HS := HS.nil 100 q100
          exact bodyPost_ret (results_list (rs := [.cell 4 100, .tmp 5, .tmp 6]) rfl (by simp) (.cell _ _ _ _ _ rfl (HS.boxAt (i := 0) rfl) Try.underlying100 rfl (by kernel_rfl) (.tmp (.tmp .nil)))) rfl ⟨_, rfl, HS.pick [2] (by decide) (by rfl)⟩
theorem impl_readItem.calls {k : Nat} {a0 : ByteArray} {a1 : Int} {r1 : S100} {r2 : ByteArray} {r3 : Bool} {w : World} (h : impl_readItem.f k a0 a1 = some (r1, r2, r3)) :
    Calls Try.prog 117 #[.string a0, .int .i64 a1] w (fun e w' => ∃ v0_ : Value, e = .returned (.tuple #[.agg #[.int .i64 r1.f0, .string r1.f1, v0_], .string r2, .bool r3]) ∧ Hp noFP w w' [.own (Zd.slice 100 q100) r1.f2 [v0_]]) := impl_readItem.calls_ k (Nat.le_refl k) h
/-! ### impl_within: function 78 -/
def impl_within.f (a0 : Int) (a1 : Int) (a2 : Int) : Option (Bool) := (if a1 ≤ a0 then (some (decide (a0 ≤ a2))) else (some false))
set_option maxHeartbeats 16000000 in
theorem impl_within.calls {a0 : Int} {a1 : Int} {a2 : Int} {r : Bool} {w : World} (h : impl_within.f a0 a1 a2 = some r) :
    Calls Try.prog 78 #[.int .i64 a0, .int .i64 a1, .int .i64 a2] w (fun e w' => e = .returned (.bool r) ∧ Hp noFP w w' []) := by
 have HS := Hp.start w
 have H := Aside0.mk h
 clear h
 unfold impl_within.f at H
 go_enter Try.func78, Try.ntmps78
 by_cases c1 : a1 ≤ a0
 · replace H := zpos c1 H
   replace c1 := eq_true c1
   obtain rfl := zsome H
   go_wp2
   go_ret
   exact ⟨rfl, HS.pick [] (by decide) (by rfl)⟩
 · replace H := zneg c1 H
   replace c1 := eq_false c1
   obtain rfl := zsome H
   go_wp2
   go_ret
   exact ⟨rfl, HS.pick [] (by decide) (by rfl)⟩
/-! ### impl_bytesIn: function 190 -/
def impl_bytesIn.l0 : Nat → Int → ByteArray → Int → Int → Option (Bool)
  | 0, _, _, _, _ => none
  | k + 1, x4, a0, a1, a2 => (if x4 < (a0.size : Int) then (if 0 ≤ x4 then (if x4 < (a0.size : Int) then ((impl_within.f (wrap64 (bt a0 x4)) a1 a2).bind fun t10 => (if t10 = true then (impl_bytesIn.l0 k (wrap64 (x4 + 1)) a0 a1 a2) else (some false))) else none) else none) else (some true))
def impl_bytesIn.f (k : Nat) (a0 : ByteArray) (a1 : Int) (a2 : Int) : Option (Bool) := (impl_bytesIn.l0 k 0 a0 a1 a2)
set_option maxHeartbeats 16000000 in
theorem impl_bytesIn.calls {k : Nat} {a0 : ByteArray} {a1 : Int} {a2 : Int} {r : Bool} {w : World} (h : impl_bytesIn.f k a0 a1 a2 = some r) :
    Calls Try.prog 190 #[.string a0, .int .i64 a1, .int .i64 a2] w (fun e w' => e = .returned (.bool r) ∧ Hp noFP w w' []) := by
 have HS := Hp.start w
 have H := Aside0.mk h
 clear h
 unfold impl_bytesIn.f at H
 go_enter Try.func190, Try.ntmps190
 go_wp2
 go_loopg [7] k (fun kq v_7 w' => ∃ (x4 : Int), v_7 = .int .i64 x4 ∧ Aside0 (impl_bytesIn.l0 kq x4 a0 a1 a2 = some r) ∧ Aside0 (kq ≤ k) ∧ Hp noFP w w' [])
 case atStart => exact ⟨_, rfl, H, ⟨Nat.le_refl _⟩, HS⟩
 case round =>
  clear HS H; (try clear F)
  obtain ⟨x4, rfl, H, HKk3, HS⟩ := hrel
  cases gk with
  | zero => exact absurd H.out (by simp [impl_bytesIn.l0])
  | succ k3 =>
   simp only [impl_bytesIn.l0] at H
   by_cases c6 : x4 < (a0.size : Int)
   · replace H := zpos c6 H
     replace c6 := eq_true c6
     by_cases c7 : 0 ≤ x4
     case neg => exact zno c7 H
     replace H := zpos c7 H
     replace c7 := eq_true c7
     by_cases c8 : x4 < (a0.size : Int)
     case neg => exact zno c8 H
     replace H := zpos c8 H
     replace c8 := eq_true c8
     have hx9 := bt_at a0 x4
     replace H := zbind H; obtain ⟨t10, ht10, H⟩ := H
     go_upto_if 21 with (first | ((with_reducible refine gate_dst (N := 20) rfl ?_); refine ev_call rfl Try.func78 (by kernel_rfl) rfl #[.int .i64 (wrap64 (bt a0 x4)), .int .i64 a1, .int .i64 a2] rfl (by simp only [List.map_toArray, List.map_cons, List.map_nil]; rfl) ?_; refine (impl_within.calls ht10.out).mono ?_; rintro _ wt10 ⟨rfl, HQ⟩; refine ⟨_, rfl, ?_⟩; replace HS := HS.call HQ; clear HQ; (try clear F); (try simp only [hpn, hpm] at HS)))
     by_cases c12 : t10 = true
     · replace H := zpos c12 H
       subst c12
       (try simp only [dcn, if_true, Bool.false_eq_true, if_false])
       go_wp2
       go_roundg k3
       case measure => have := HKk3.out; omega
       case rel => exact ⟨_, rfl, H, ⟨by have := HKk3.out; omega⟩, HS.pick [] (by decide) (by rfl)⟩
     · replace H := zneg c12 H
       replace c12 := eq_false_of_ne_true c12
       subst c12
       (try simp only [dcn, if_true, Bool.false_eq_true, if_false])
       obtain rfl := zsome H
       go_wp2
       go_ret
       exact ⟨rfl, HS.pick [] (by decide) (by rfl)⟩
   · replace H := zneg c6 H
     replace c6 := eq_false c6
     obtain rfl := zsome H
     go_wp2
     go_ret
     exact ⟨rfl, HS.pick [] (by decide) (by rfl)⟩
/-! ### impl_itemOk: function 180 -/
mutual
def impl_itemOk.l0 : Nat → Int → S100 → Int → Option (Bool)
  | 0, _, _, _ => none
  | k + 1, x10, a0, a1 => (if x10 < (a0.f2.length : Int) then (if 0 ≤ x10 then (if x10 < (a0.f2.length : Int) then ((impl_itemOk.f k (rd_T100 a0.f2 x10) (wrap64 (a1 + 1))).bind fun t20 => (if t20 = true then (impl_itemOk.l0 k (wrap64 (x10 + 1)) a0 a1) else (some false))) else none) else none) else (some true))
def impl_itemOk.f : Nat → S100 → Int → Option (Bool)
  | 0, _, _ => none
  | k + 1, a0, a1 => (if a0.f0 = 48 then (if a0.f1.toList = ([] : List UInt8) then (if 40 < (a0.f2.length : Int) then (some false) else (if 6 ≤ a1 then (some false) else (impl_itemOk.l0 k 0 a0 a1))) else (some false)) else (if 0 < (a0.f2.length : Int) then (some false) else (if a0.f0 = 1 then (if a0.f1.toList = ([0] : List UInt8) then (some true) else (some (a0.f1.toList == ([255] : List UInt8)))) else (if a0.f0 = 2 then ((impl_within.f (a0.f1.size : Int) 1 5).bind fun t27 => (if t27 = true then (if 0 < (a0.f1.size : Int) then (if (bt a0.f1 0) < 128 then (if (bt a0.f1 0) = 0 then (if (a0.f1.size : Int) = 1 then (some true) else (if 1 < (a0.f1.size : Int) then (some (decide (128 ≤ (bt a0.f1 1)))) else none)) else (some true)) else (some false)) else none) else (some false))) else (if a0.f0 = 4 then (some true) else (if a0.f0 = 12 then ((impl_bytesIn.f k a0.f1 32 126).bind fun t43 => (some t43)) else (some false)))))))
end
set_option maxHeartbeats 16000000 in
theorem impl_itemOk.calls_ (K : Nat) : ∀ {k : Nat} (hK : k ≤ K) {a0 : S100} {a1 : Int} {Ap0 : Option Addr} {np0 cp0 : Nat} {r : Bool} {w : World} (h : impl_itemOk.f k a0 a1 = some r) (gp0 : k100.C w Ap0 np0 a0.f2) (lp0 : np0 ≤ cp0),
    Calls Try.prog 180 #[.agg #[.int .i64 a0.f0, .string a0.f1, .slice Ap0 np0 cp0], .int .i64 a1] w (fun e w' => e = .returned (.bool r) ∧ Hp noFP w w' []) := by
  induction K with
  | zero =>
    intro k hK a0 a1 Ap0 np0 cp0 r w h gp0 lp0
    obtain rfl : k = 0 := by omega
    exact absurd h (by simp [impl_itemOk.f])
  | succ K IH =>
    intro k hK a0 a1 Ap0 np0 cp0 r w h gp0 lp0
    cases k with
    | zero => exact absurd h (by simp [impl_itemOk.f])
    | succ k =>
    have HK0 : Aside0 (k ≤ K) := ⟨by omega⟩
    clear hK
    obtain rfl := C_len gp0
    have HS := Hp.start w
    have H := Aside0.mk h
    clear h
    simp only [impl_itemOk.f] at H
    go_enter Try.func180, Try.ntmps180
    go_upto_if 10 with (first | ((with_reducible refine gate_dst (N := 2) rfl ?_); refine ev_box rfl HS (by first | (go_simp; done) | (go_simp; rfl)) rfl ?_; clear HS; (try clear F); intro g2 w2 HS; (try simp only [hpn, hpm] at HS); have F := HS.boxes; simp only [boxFacts, and_true] at F))
    by_cases c3 : a0.f0 = 48
    · replace H := zpos c3 H
      have c3a := beq_iff_eq.mpr c3
      have c3b := bne_eq_false_iff_eq.mpr c3
      clear c3
      (try simp only [c3a, c3b, dcn])
      by_cases c4 : a0.f1.toList = ([] : List UInt8)
      · replace H := zpos c4 H
        have c4a := beq_iff_eq.mpr c4
        have c4b := bne_eq_false_iff_eq.mpr c4
        have c4e := List.isEmpty_iff.mpr c4
        clear c4
        by_cases c5 : 40 < (a0.f2.length : Int)
        · replace H := zpos c5 H
          replace c5 := eq_true c5
          obtain rfl := zsome H
          go_wp2
          go_ret
          exact ⟨rfl, HS.pick [] (by decide) (by rfl)⟩
        · replace H := zneg c5 H
          replace c5 := eq_false c5
          by_cases c6 : 6 ≤ a1
          · replace H := zpos c6 H
            replace c6 := eq_true c6
            obtain rfl := zsome H
            go_wp2
            go_ret
            exact ⟨rfl, HS.pick [] (by decide) (by rfl)⟩
          · replace H := zneg c6 H
            replace c6 := eq_false c6
            go_wp2
            go_loopg [27] k (fun kq v_27 w' => ∃ (x10 : Int), v_27 = .int .i64 x10 ∧ Aside0 (impl_itemOk.l0 kq x10 a0 a1 = some r) ∧ Aside0 (kq ≤ k) ∧ Hp noFP w w' [.box g2 [.int .i64 a0.f0, .string a0.f1, .slice Ap0 a0.f2.length cp0] 100])
            case atStart => exact ⟨_, rfl, H, ⟨Nat.le_refl _⟩, HS⟩
            case round =>
             clear HS H; (try clear F)
             obtain ⟨x10, rfl, H, HKk9, HS⟩ := hrel
             have F := HS.boxes; simp only [boxFacts, and_true] at F
             cases gk with
             | zero => exact absurd H.out (by simp [impl_itemOk.l0])
             | succ k9 =>
              simp only [impl_itemOk.l0] at H
              by_cases c12 : x10 < (a0.f2.length : Int)
              · replace H := zpos c12 H
                replace c12 := eq_true c12
                by_cases c13 : 0 ≤ x10
                case neg => exact zno c13 H
                replace H := zpos c13 H
                replace c13 := eq_true c13
                by_cases c14 : x10 < (a0.f2.length : Int)
                case neg => exact zno c14 H
                replace H := zpos c14 H
                replace c14 := eq_true c14
                obtain ⟨ad15, B15_2, d15_2, rfl, e15_0, e15_1, e15_2, m15_2, y15_2⟩ := at_T100 gp0 x10 (of_eq_true c13) (of_eq_true c14)
                have e15_0_15 := (HS.keepc e15_0)
                have e15_1_15 := (HS.keepc e15_1)
                have e15_2_15 := (HS.keepc e15_2)
                replace H := zbind H; obtain ⟨t20, ht20, H⟩ := H
                go_upto_if 35 with (first | ((with_reducible refine gate_dst (N := 6) rfl ?_); refine ev_box rfl HS (by first | (go_simp; done) | (go_simp; rfl)) rfl ?_; clear HS; (try clear F); intro g6 w6 HS; (try simp only [hpn, hpm] at HS); have F := HS.boxes; simp only [boxFacts, and_true] at F) | ((with_reducible refine gate_store (p := 6) rfl ?_); refine ev_store rfl 1 0 HS (seg := [.int .i64 ((rd_T100 a0.f2 x10).f0), .string ((rd_T100 a0.f2 x10).f1), .slice B15_2 (rd_T100 a0.f2 x10).f2.length d15_2]) rfl rfl rfl rfl rfl rfl (by kernel_rfl) (by simp [wrt]) (by simp [Value.oneCell']) ?_; clear HS; (try clear F); intro w18 HS; (try simp only [hpn, hpm] at HS); have F := HS.boxes; simp only [boxFacts, and_true] at F) | ((with_reducible refine gate_dst (N := 34) rfl ?_); refine ev_call rfl Try.func180 (by kernel_rfl) rfl #[.agg #[.int .i64 ((rd_T100 a0.f2 x10).f0), .string ((rd_T100 a0.f2 x10).f1), .slice B15_2 (rd_T100 a0.f2 x10).f2.length d15_2], .int .i64 (wrap64 (a1 + 1))] rfl (by simp only [List.map_toArray, List.map_cons, List.map_nil]; rfl) ?_; refine (IH (by have := HK0.out; have := HKk9.out; omega) ht20.out (HS.ro y15_2) m15_2).mono ?_; rintro _ wt20 ⟨rfl, HQ⟩; refine ⟨_, rfl, ?_⟩; replace HS := HS.call HQ; clear HQ; (try clear F); (try simp only [hpn, hpm] at HS); have F := HS.boxes; simp only [boxFacts, and_true] at F))
                by_cases c22 : t20 = true
                · replace H := zpos c22 H
                  subst c22
                  (try simp only [dcn, if_true, Bool.false_eq_true, if_false])
                  go_wp2
                  go_roundg k9
                  case measure => have := HK0.out; have := HKk9.out; omega
                  case rel => exact ⟨_, rfl, H, ⟨by have := HK0.out; have := HKk9.out; omega⟩, HS.pick [0] (by decide) (by rfl)⟩
                · replace H := zneg c22 H
                  replace c22 := eq_false_of_ne_true c22
                  subst c22
                  (try simp only [dcn, if_true, Bool.false_eq_true, if_false])
                  obtain rfl := zsome H
                  go_wp2
                  go_ret
                  exact ⟨rfl, HS.pick [] (by decide) (by rfl)⟩
              · replace H := zneg c12 H
                replace c12 := eq_false c12
                obtain rfl := zsome H
                go_wp2
                go_ret
                exact ⟨rfl, HS.pick [] (by decide) (by rfl)⟩
      · replace H := zneg c4 H
        have c4a := beq_eq_false_iff_ne.mpr c4
        have c4b := bne_iff_ne.mpr c4
        have c4e := List.isEmpty_eq_false_iff.mpr c4
        clear c4
        obtain rfl := zsome H
        go_wp2
        go_ret
        exact ⟨rfl, HS.pick [] (by decide) (by rfl)⟩
    · replace H := zneg c3 H
      have c3a := beq_eq_false_iff_ne.mpr c3
      have c3b := bne_iff_ne.mpr c3
      clear c3
      (try simp only [c3a, c3b, dcn])
      by_cases c23 : 0 < (a0.f2.length : Int)
      · replace H := zpos c23 H
        replace c23 := eq_true c23
        have c23n := (propext (Int.natCast_pos (n := a0.f2.length))).symm.trans c23
        obtain rfl := zsome H
        go_wp2
        go_ret
        exact ⟨rfl, HS.pick [] (by decide) (by rfl)⟩
      · replace H := zneg c23 H
        replace c23 := eq_false c23
        have c23n := (propext (Int.natCast_pos (n := a0.f2.length))).symm.trans c23
        by_cases c24 : a0.f0 = 1
        · replace H := zpos c24 H
          have c24a := beq_iff_eq.mpr c24
          have c24b := bne_eq_false_iff_eq.mpr c24
          clear c24
          by_cases c25 : a0.f1.toList = ([0] : List UInt8)
          · replace H := zpos c25 H
            have c25a := beq_iff_eq.mpr c25
            have c25b := bne_eq_false_iff_eq.mpr c25
            clear c25
            obtain rfl := zsome H
            go_wp2
            go_ret
            exact ⟨rfl, HS.pick [] (by decide) (by rfl)⟩
          · replace H := zneg c25 H
            have c25a := beq_eq_false_iff_ne.mpr c25
            have c25b := bne_iff_ne.mpr c25
            clear c25
            obtain rfl := zsome H
            go_wp2
            go_ret
            exact ⟨rfl, HS.pick [] (by decide) (by rfl)⟩
        · replace H := zneg c24 H
          have c24a := beq_eq_false_iff_ne.mpr c24
          have c24b := bne_iff_ne.mpr c24
          clear c24
          by_cases c26 : a0.f0 = 2
          · replace H := zpos c26 H
            have c26a := beq_iff_eq.mpr c26
            have c26b := bne_eq_false_iff_eq.mpr c26
            clear c26
            replace H := zbind H; obtain ⟨t27, ht27, H⟩ := H
            by_cases c29 : t27 = true
            · replace H := zpos c29 H
              subst c29
              by_cases c30 : 0 < (a0.f1.size : Int)
              case neg => exact zno c30 H
              replace H := zpos c30 H
              replace c30 := eq_true c30
              have c30n : (0 < a0.f1.size) = True := eq_true (by have := of_eq_true c30; omega)
              by_cases c33 : (bt a0.f1 0) < 128
              · replace H := zpos c33 H
                replace c33 := eq_true c33
                by_cases c36 : (bt a0.f1 0) = 0
                · replace H := zpos c36 H
                  have c36a := beq_iff_eq.mpr c36
                  have c36b := bne_eq_false_iff_eq.mpr c36
                  clear c36
                  by_cases c37 : (a0.f1.size : Int) = 1
                  · replace H := zpos c37 H
                    have c37a := beq_iff_eq.mpr c37
                    have c37b := bne_eq_false_iff_eq.mpr c37
                    clear c37
                    obtain rfl := zsome H
                    go_wp2_with (first | ((with_reducible refine gate_dst (N := 59) rfl ?_); refine ev_call rfl Try.func78 (by kernel_rfl) rfl #[.int .i64 (a0.f1.size : Int), .int .i64 1, .int .i64 5] rfl (by simp only [List.map_toArray, List.map_cons, List.map_nil]; rfl) ?_; refine (impl_within.calls ht27.out).mono ?_; rintro _ wt27 ⟨rfl, HQ⟩; refine ⟨_, rfl, ?_⟩; replace HS := HS.call HQ; clear HQ; (try clear F); (try simp only [hpn, hpm] at HS); have F := HS.boxes; simp only [boxFacts, and_true] at F; have hx31 : ∀ h : 0 < a0.f1.size, ((a0.f1[0]'h).toNat : Int) = bt a0.f1 0 := bt_at a0.f1 0; have hz32 : 0 < a0.f1.size := (by have := of_eq_true c30; omega); have hx34 : ∀ h : 0 < a0.f1.size, ((a0.f1[0]'h).toNat : Int) = bt a0.f1 0 := bt_at a0.f1 0; have hz35 : 0 < a0.f1.size := (by have := of_eq_true c30; omega)))
                    go_ret
                    exact ⟨rfl, HS.pick [] (by decide) (by rfl)⟩
                  · replace H := zneg c37 H
                    have c37a := beq_eq_false_iff_ne.mpr c37
                    have c37b := bne_iff_ne.mpr c37
                    clear c37
                    by_cases c38 : 1 < (a0.f1.size : Int)
                    case neg => exact zno c38 H
                    replace H := zpos c38 H
                    replace c38 := eq_true c38
                    have c38n : (1 < a0.f1.size) = True := eq_true (by have := of_eq_true c38; omega)
                    obtain rfl := zsome H
                    go_wp2_with (first | ((with_reducible refine gate_dst (N := 59) rfl ?_); refine ev_call rfl Try.func78 (by kernel_rfl) rfl #[.int .i64 (a0.f1.size : Int), .int .i64 1, .int .i64 5] rfl (by simp only [List.map_toArray, List.map_cons, List.map_nil]; rfl) ?_; refine (impl_within.calls ht27.out).mono ?_; rintro _ wt27 ⟨rfl, HQ⟩; refine ⟨_, rfl, ?_⟩; replace HS := HS.call HQ; clear HQ; (try clear F); (try simp only [hpn, hpm] at HS); have F := HS.boxes; simp only [boxFacts, and_true] at F; have hx31 : ∀ h : 0 < a0.f1.size, ((a0.f1[0]'h).toNat : Int) = bt a0.f1 0 := bt_at a0.f1 0; have hz32 : 0 < a0.f1.size := (by have := of_eq_true c30; omega); have hx34 : ∀ h : 0 < a0.f1.size, ((a0.f1[0]'h).toNat : Int) = bt a0.f1 0 := bt_at a0.f1 0; have hz35 : 0 < a0.f1.size := (by have := of_eq_true c30; omega); have hx39 : ∀ h : 1 < a0.f1.size, ((a0.f1[1]'h).toNat : Int) = bt a0.f1 1 := bt_at a0.f1 1; have hz40 : 1 < a0.f1.size := (by have := of_eq_true c38; omega)))
                    go_ret
                    exact ⟨rfl, HS.pick [] (by decide) (by rfl)⟩
                · replace H := zneg c36 H
                  have c36a := beq_eq_false_iff_ne.mpr c36
                  have c36b := bne_iff_ne.mpr c36
                  clear c36
                  obtain rfl := zsome H
                  go_wp2_with (first | ((with_reducible refine gate_dst (N := 59) rfl ?_); refine ev_call rfl Try.func78 (by kernel_rfl) rfl #[.int .i64 (a0.f1.size : Int), .int .i64 1, .int .i64 5] rfl (by simp only [List.map_toArray, List.map_cons, List.map_nil]; rfl) ?_; refine (impl_within.calls ht27.out).mono ?_; rintro _ wt27 ⟨rfl, HQ⟩; refine ⟨_, rfl, ?_⟩; replace HS := HS.call HQ; clear HQ; (try clear F); (try simp only [hpn, hpm] at HS); have F := HS.boxes; simp only [boxFacts, and_true] at F; have hx31 : ∀ h : 0 < a0.f1.size, ((a0.f1[0]'h).toNat : Int) = bt a0.f1 0 := bt_at a0.f1 0; have hz32 : 0 < a0.f1.size := (by have := of_eq_true c30; omega); have hx34 : ∀ h : 0 < a0.f1.size, ((a0.f1[0]'h).toNat : Int) = bt a0.f1 0 := bt_at a0.f1 0; have hz35 : 0 < a0.f1.size := (by have := of_eq_true c30; omega)))
                  go_ret
                  exact ⟨rfl, HS.pick [] (by decide) (by rfl)⟩
              · replace H := zneg c33 H
                replace c33 := eq_false c33
                obtain rfl := zsome H
                go_wp2_with (first | ((with_reducible refine gate_dst (N := 59) rfl ?_); refine ev_call rfl Try.func78 (by kernel_rfl) rfl #[.int .i64 (a0.f1.size : Int), .int .i64 1, .int .i64 5] rfl (by simp only [List.map_toArray, List.map_cons, List.map_nil]; rfl) ?_; refine (impl_within.calls ht27.out).mono ?_; rintro _ wt27 ⟨rfl, HQ⟩; refine ⟨_, rfl, ?_⟩; replace HS := HS.call HQ; clear HQ; (try clear F); (try simp only [hpn, hpm] at HS); have F := HS.boxes; simp only [boxFacts, and_true] at F; have hx31 : ∀ h : 0 < a0.f1.size, ((a0.f1[0]'h).toNat : Int) = bt a0.f1 0 := bt_at a0.f1 0; have hz32 : 0 < a0.f1.size := (by have := of_eq_true c30; omega)))
                go_ret
                exact ⟨rfl, HS.pick [] (by decide) (by rfl)⟩
            · replace H := zneg c29 H
              replace c29 := eq_false_of_ne_true c29
              subst c29
              obtain rfl := zsome H
              go_wp2_with (first | ((with_reducible refine gate_dst (N := 59) rfl ?_); refine ev_call rfl Try.func78 (by kernel_rfl) rfl #[.int .i64 (a0.f1.size : Int), .int .i64 1, .int .i64 5] rfl (by simp only [List.map_toArray, List.map_cons, List.map_nil]; rfl) ?_; refine (impl_within.calls ht27.out).mono ?_; rintro _ wt27 ⟨rfl, HQ⟩; refine ⟨_, rfl, ?_⟩; replace HS := HS.call HQ; clear HQ; (try clear F); (try simp only [hpn, hpm] at HS); have F := HS.boxes; simp only [boxFacts, and_true] at F))
              go_ret
              exact ⟨rfl, HS.pick [] (by decide) (by rfl)⟩
          · replace H := zneg c26 H
            have c26a := beq_eq_false_iff_ne.mpr c26
            have c26b := bne_iff_ne.mpr c26
            clear c26
            by_cases c41 : a0.f0 = 4
            · replace H := zpos c41 H
              have c41a := beq_iff_eq.mpr c41
              have c41b := bne_eq_false_iff_eq.mpr c41
              clear c41
              obtain rfl := zsome H
              go_wp2
              go_ret
              exact ⟨rfl, HS.pick [] (by decide) (by rfl)⟩
            · replace H := zneg c41 H
              have c41a := beq_eq_false_iff_ne.mpr c41
              have c41b := bne_iff_ne.mpr c41
              clear c41
              by_cases c42 : a0.f0 = 12
              · replace H := zpos c42 H
                have c42a := beq_iff_eq.mpr c42
                have c42b := bne_eq_false_iff_eq.mpr c42
                clear c42
                replace H := zbind H; obtain ⟨t43, ht43, H⟩ := H
                obtain rfl := zsome H
                go_wp2_with (first | ((with_reducible refine gate_dst (N := 88) rfl ?_); refine ev_call rfl Try.func190 (by kernel_rfl) rfl #[.string a0.f1, .int .i64 32, .int .i64 126] rfl (by simp only [List.map_toArray, List.map_cons, List.map_nil]; rfl) ?_; refine (impl_bytesIn.calls ht43.out).mono ?_; rintro _ wt43 ⟨rfl, HQ⟩; refine ⟨_, rfl, ?_⟩; replace HS := HS.call HQ; clear HQ; (try clear F); (try simp only [hpn, hpm] at HS); have F := HS.boxes; simp only [boxFacts, and_true] at F))
                go_ret
                exact ⟨rfl, HS.pick [] (by decide) (by rfl)⟩
              · replace H := zneg c42 H
                have c42a := beq_eq_false_iff_ne.mpr c42
                have c42b := bne_iff_ne.mpr c42
                clear c42
                obtain rfl := zsome H
                go_wp2
                go_ret
                exact ⟨rfl, HS.pick [] (by decide) (by rfl)⟩
theorem impl_itemOk.calls {k : Nat} {a0 : S100} {a1 : Int} {Ap0 : Option Addr} {np0 cp0 : Nat} {r : Bool} {w : World} (h : impl_itemOk.f k a0 a1 = some r) (gp0 : k100.C w Ap0 np0 a0.f2) (lp0 : np0 ≤ cp0) :
    Calls Try.prog 180 #[.agg #[.int .i64 a0.f0, .string a0.f1, .slice Ap0 np0 cp0], .int .i64 a1] w (fun e w' => e = .returned (.bool r) ∧ Hp noFP w w' []) := impl_itemOk.calls_ k (Nat.le_refl k) h gp0 lp0
end Go.Proofs.Ytoaoncnbimcdgaa.F
