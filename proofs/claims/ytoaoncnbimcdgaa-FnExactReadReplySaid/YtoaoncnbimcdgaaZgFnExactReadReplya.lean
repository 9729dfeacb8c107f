/- Functions of the program and of the law, and that their calls do what is written here. -/
import Derived.Test.YtoaoncnbimcdgaaZT
namespace Go.Proofs.Ytoaoncnbimcdgaa.F
open Go.RowKit Go.Proofs.YtoaoncnbimcdgaaW.PrintWords Go.Proofs.YtoaoncnbimcdgaaW.PrintLast Go.Proofs.YtoaoncnbimcdgaaW.PrintMore Go.Proofs.Ytoaoncnbimcdgaa.Z
attribute [local go_sem] max2_int min2_int max_two min_two max_three min_three max_four min_four
set_option linter.unusedVariables false
set_option linter.unusedSimpArgs false
set_option maxRecDepth 100000
/-! ### spec_l01In: function 72 -/
def spec_l01In.f (a0 : Int) (a1 : Int) (a2 : Int) : Option (Bool) := (if a1 ≤ a0 then (some (decide (a0 ≤ a2))) else (some false))
set_option maxHeartbeats 16000000 in
theorem spec_l01In.calls {a0 : Int} {a1 : Int} {a2 : Int} {r : Bool} {w : World} (h : spec_l01In.f a0 a1 a2 = some r) :
    Calls Try.prog 72 #[.int .i64 a0, .int .i64 a1, .int .i64 a2] w (fun e w' => e = .returned (.bool r) ∧ Hp noFP w w' []) := by
 have HS := Hp.start w
 have H := Aside0.mk h
 clear h
 unfold spec_l01In.f at H
 go_enter Try.func72, Try.ntmps72
 by_cases c1 : a1 ≤ a0
 · replace H := zpos c1 H
   replace c1 := eq_true c1
   obtain rfl := zsome H
   go_wp2
   go_ret
   exact ⟨rfl, HS.pick [] (by decide) (by rfl)⟩
 · replace H := zneg c1 H
   replace c1 := eq_false c1
   obtain rfl := zsome H
   go_wp2
   go_ret
   exact ⟨rfl, HS.pick [] (by decide) (by rfl)⟩
/-! ### spec_l07Size: function 153 -/
def spec_l07Size.l0 : Nat → Int → Int → ByteArray → Int → Option (Int × Int × Bool)
  | 0, _, _, _, _ => none
  | k + 1, x17, x18, a0, a1 => (if x18 < (wrap64 ((wrap64 (bt a0 a1)) - 128)) then (if 0 ≤ (wrap64 ((wrap64 (a1 + 1)) + x18)) then (if (wrap64 ((wrap64 (a1 + 1)) + x18)) < (a0.size : Int) then (spec_l07Size.l0 k (wrap64 ((wrap64 (256 * x17)) + (wrap64 (bt a0 (wrap64 ((wrap64 (a1 + 1)) + x18)))))) (wrap64 (x18 + 1)) a0 a1) else none) else none) else (some (x17, (wrap64 ((wrap64 (a1 + 1)) + (wrap64 ((wrap64 (bt a0 a1)) - 128)))), true)))
def spec_l07Size.f (k : Nat) (a0 : ByteArray) (a1 : Int) : Option (Int × Int × Bool) := (if (a0.size : Int) ≤ a1 then (some (0, 0, false)) else (if 0 ≤ a1 then (if a1 < (a0.size : Int) then (if (wrap64 (bt a0 a1)) < 128 then (some ((wrap64 (bt a0 a1)), (wrap64 (a1 + 1)), true)) else ((spec_l01In.f (wrap64 ((wrap64 (bt a0 a1)) - 128)) 1 2).bind fun t6 => (if t6 = true then (if (wrap64 ((wrap64 ((a0.size : Int) - a1)) - 1)) < (wrap64 ((wrap64 (bt a0 a1)) - 128)) then (some (0, 0, false)) else (spec_l07Size.l0 k 0 0 a0 a1)) else (some (0, 0, false))))) else none) else none))
set_option maxHeartbeats 16000000 in
theorem spec_l07Size.calls {k : Nat} {a0 : ByteArray} {a1 : Int} {r1 : Int} {r2 : Int} {r3 : Bool} {w : World} (h : spec_l07Size.f k a0 a1 = some (r1, r2, r3)) :
    Calls Try.prog 153 #[.string a0, .int .i64 a1] w (fun e w' => e = .returned (.tuple #[.int .i64 r1, .int .i64 r2, .bool r3]) ∧ Hp noFP w w' []) := by
 have HS := Hp.start w
 have H := Aside0.mk h
 clear h
 unfold spec_l07Size.f at H
 go_enter Try.func153, Try.ntmps153
 by_cases c1 : (a0.size : Int) ≤ a1
 · replace H := zpos c1 H
   replace c1 := eq_true c1
   obtain ⟨rfl, rfl, rfl⟩ := zsome3 H
   go_wp2
   exact bodyPost_ret (results_list (rs := [.tmp 4, .tmp 5, .tmp 6]) rfl (by simp) (.tmp (.tmp (.tmp .nil)))) rfl ⟨rfl, HS.pick [] (by decide) (by rfl)⟩
 · replace H := zneg c1 H
   replace c1 := eq_false c1
   by_cases c2 : 0 ≤ a1
   case neg => exact zno c2 H
   replace H := zpos c2 H
   replace c2 := eq_true c2
   by_cases c3 : a1 < (a0.size : Int)
   case neg => exact zno c3 H
   replace H := zpos c3 H
   replace c3 := eq_true c3
   have hx4 := bt_at a0 a1
   by_cases c5 : (wrap64 (bt a0 a1)) < 128
   · replace H := zpos c5 H
     replace c5 := eq_true c5
     obtain ⟨rfl, rfl, rfl⟩ := zsome3 H
     go_wp2
     exact bodyPost_ret (results_list (rs := [.tmp 4, .tmp 5, .tmp 6]) rfl (by simp) (.tmp (.tmp (.tmp .nil)))) rfl ⟨rfl, HS.pick [] (by decide) (by rfl)⟩
   · replace H := zneg c5 H
     replace c5 := eq_false c5
     replace H := zbind H; obtain ⟨t6, ht6, H⟩ := H
     by_cases c8 : t6 = true
     · replace H := zpos c8 H
       subst c8
       go_upto_if 37 with (first | ((with_reducible refine gate_dst (N := 27) rfl ?_); refine ev_call rfl Try.func72 (by kernel_rfl) rfl #[.int .i64 (wrap64 ((wrap64 (bt a0 a1)) - 128)), .int .i64 1, .int .i64 2] rfl (by simp only [List.map_toArray, List.map_cons, List.map_nil]; rfl) ?_; refine (spec_l01In.calls ht6.out).mono ?_; rintro _ wt6 ⟨rfl, HQ⟩; refine ⟨_, rfl, ?_⟩; replace HS := HS.call HQ; clear HQ; (try clear F); (try simp only [hpn, hpm] at HS)))
       by_cases c9 : (wrap64 ((wrap64 ((a0.size : Int) - a1)) - 1)) < (wrap64 ((wrap64 (bt a0 a1)) - 128))
       · replace H := zpos c9 H
         replace c9 := eq_true c9
         (try simp only [c9, dcn])
         obtain ⟨rfl, rfl, rfl⟩ := zsome3 H
         go_wp2
         exact bodyPost_ret (results_list (rs := [.tmp 4, .tmp 5, .tmp 6]) rfl (by simp) (.tmp (.tmp (.tmp .nil)))) rfl ⟨rfl, HS.pick [] (by decide) (by rfl)⟩
       · replace H := zneg c9 H
         replace c9 := eq_false c9
         (try simp only [c9, dcn])
         go_wp2
         go_loopg [9, 10] k (fun kq v_9 v_10 w' => ∃ (x17 : Int) (x18 : Int), v_9 = .int .i64 x17 ∧ v_10 = .int .i64 x18 ∧ Aside0 (spec_l07Size.l0 kq x17 x18 a0 a1 = some (r1, r2, r3)) ∧ Aside0 (kq ≤ k) ∧ Hp noFP w w' [])
         case atStart => exact ⟨_, _, rfl, rfl, H, ⟨Nat.le_refl _⟩, HS⟩
         case round =>
          clear HS H; (try clear F)
          obtain ⟨x17, x18, rfl, rfl, H, HKk16, HS⟩ := hrel
          cases gk with
          | zero => exact absurd H.out (by simp [spec_l07Size.l0])
          | succ k16 =>
           simp only [spec_l07Size.l0] at H
           by_cases c20 : x18 < (wrap64 ((wrap64 (bt a0 a1)) - 128))
           · replace H := zpos c20 H
             replace c20 := eq_true c20
             by_cases c21 : 0 ≤ (wrap64 ((wrap64 (a1 + 1)) + x18))
             case neg => exact zno c21 H
             replace H := zpos c21 H
             replace c21 := eq_true c21
             by_cases c22 : (wrap64 ((wrap64 (a1 + 1)) + x18)) < (a0.size : Int)
             case neg => exact zno c22 H
             replace H := zpos c22 H
             replace c22 := eq_true c22
             have hx23 := bt_at a0 (wrap64 ((wrap64 (a1 + 1)) + x18))
             go_wp2
             go_roundg k16
             case measure => have := HKk16.out; omega
             case rel => exact ⟨_, _, rfl, rfl, H, ⟨by have := HKk16.out; omega⟩, HS.pick [] (by decide) (by rfl)⟩
           · replace H := zneg c20 H
             replace c20 := eq_false c20
             obtain ⟨rfl, rfl, rfl⟩ := zsome3 H
             go_wp2
             exact bodyPost_ret (results_list (rs := [.tmp 4, .tmp 5, .tmp 6]) rfl (by simp) (.tmp (.tmp (.tmp .nil)))) rfl ⟨rfl, HS.pick [] (by decide) (by rfl)⟩
     · replace H := zneg c8 H
       replace c8 := eq_false_of_ne_true c8
       subst c8
       obtain ⟨rfl, rfl, rfl⟩ := zsome3 H
       go_wp2_with (first | ((with_reducible refine gate_dst (N := 27) rfl ?_); refine ev_call rfl Try.func72 (by kernel_rfl) rfl #[.int .i64 (wrap64 ((wrap64 (bt a0 a1)) - 128)), .int .i64 1, .int .i64 2] rfl (by simp only [List.map_toArray, List.map_cons, List.map_nil]; rfl) ?_; refine (spec_l01In.calls ht6.out).mono ?_; rintro _ wt6 ⟨rfl, HQ⟩; refine ⟨_, rfl, ?_⟩; replace HS := HS.call HQ; clear HQ; (try clear F); (try simp only [hpn, hpm] at HS)))
       exact bodyPost_ret (results_list (rs := [.tmp 4, .tmp 5, .tmp 6]) rfl (by simp) (.tmp (.tmp (.tmp .nil)))) rfl ⟨rfl, HS.pick [] (by decide) (by rfl)⟩
/-! ### spec_l07Read: function 111 -/
mutual
def spec_l07Read.l0 : Nat → (List S100) → Int → ByteArray → Int → Int → Int × Int × Bool → Option (S100 × Int × Bool)
  | 0, _, _, _, _, _, _ => none
  | k + 1, l49, x51, a0, a1, a2, t16 => (if x51 < (wrap64 (t16.2.1 + t16.1)) then (if 0 ≤ (wrap64 (t16.2.1 + t16.1)) then (if (wrap64 (t16.2.1 + t16.1)) ≤ (a0.size : Int) then ((spec_l07Read.f k (a0.extract 0 ((wrap64 (t16.2.1 + t16.1))).toNat) x51 (wrap64 (a2 + 1))).bind fun t56 => (if t56.2.2 = true then (if 40 ≤ (l49.length : Int) then (some ((⟨0, (⟨#[]⟩ : ByteArray), ([] : List S100)⟩ : S100), 0, false)) else (if l49.length + 1 ≤ 2932031007402 then (lets (l49 ++ ([t56.1] : List S100)) fun y70 => (spec_l07Read.l0 k y70 t56.2.1 a0 a1 a2 t16)) else none)) else (some ((⟨0, (⟨#[]⟩ : ByteArray), ([] : List S100)⟩ : S100), 0, false)))) else none) else none) else (some ((⟨(wrap64 (bt a0 a1)), (⟨#[]⟩ : ByteArray), l49⟩ : S100), (wrap64 (t16.2.1 + t16.1)), true)))
def spec_l07Read.f : Nat → ByteArray → Int → Int → Option (S100 × Int × Bool)
  | 0, _, _, _ => none
  | k + 1, a0, a1, a2 => (if (a0.size : Int) ≤ a1 then (some ((⟨0, (⟨#[]⟩ : ByteArray), ([] : List S100)⟩ : S100), 0, false)) else (if 6 < a2 then (some ((⟨0, (⟨#[]⟩ : ByteArray), ([] : List S100)⟩ : S100), 0, false)) else (if 0 ≤ a1 then (if a1 < (a0.size : Int) then ((spec_l07Size.f k a0 (wrap64 (a1 + 1))).bind fun t16 => (if t16.2.2 = true then (if (wrap64 ((a0.size : Int) - t16.2.1)) < t16.1 then (some ((⟨0, (⟨#[]⟩ : ByteArray), ([] : List S100)⟩ : S100), 0, false)) else (if (wrap64 (bt a0 a1)) = 48 then (spec_l07Read.l0 k [] t16.2.1 a0 a1 a2 t16) else (if 0 ≤ t16.2.1 then (if t16.2.1 ≤ (wrap64 (t16.2.1 + t16.1)) then (if (wrap64 (t16.2.1 + t16.1)) ≤ (a0.size : Int) then (some ((⟨(wrap64 (bt a0 a1)), (a0.extract (t16.2.1).toNat ((wrap64 (t16.2.1 + t16.1))).toNat), ([] : List S100)⟩ : S100), (wrap64 (t16.2.1 + t16.1)), true)) else none) else none) else none))) else (some ((⟨0, (⟨#[]⟩ : ByteArray), ([] : List S100)⟩ : S100), 0, false)))) else none) else none)))
end
set_option maxHeartbeats 16000000 in
theorem spec_l07Read.calls_ (K : Nat) : ∀ {k : Nat} (hK : k ≤ K) {a0 : ByteArray} {a1 : Int} {a2 : Int} {r1 : S100} {r2 : Int} {r3 : Bool} {w : World} (h : spec_l07Read.f k a0 a1 a2 = some (r1, r2, r3)),
    Calls Try.prog 111 #[.string a0, .int .i64 a1, .int .i64 a2] w (fun e w' => ∃ v0_ : Value, e = .returned (.tuple #[.agg #[.int .i64 r1.f0, .string r1.f1, v0_], .int .i64 r2, .bool r3]) ∧ Hp noFP w w' [.own (Zd.slice 100 q100) r1.f2 [v0_]]) := by
  induction K with
  | zero =>
    intro k hK a0 a1 a2 r1 r2 r3 w h
    obtain rfl : k = 0 := by omega
    exact absurd h (by simp [spec_l07Read.f])
  | succ K IH =>
    intro k hK a0 a1 a2 r1 r2 r3 w h
    cases k with
    | zero => exact absurd h (by simp [spec_l07Read.f])
    | succ k =>
    have HK0 : Aside0 (k ≤ K) := ⟨by omega⟩
    clear hK
    have HS := Hp.start w
    have H := Aside0.mk h
    clear h
    simp only [spec_l07Read.f] at H
    go_enter Try.func111, Try.ntmps111
    by_cases c3 : (a0.size : Int) ≤ a1
    · replace H := zpos c3 H
      replace c3 := eq_true c3
      obtain ⟨rfl, rfl, rfl⟩ := zsome3 H
      go_wp2_with (first | ((with_reducible refine gate_dst (N := 6) rfl ?_); refine ev_box rfl HS (by first | (go_simp; done) | (go_simp; rfl)) rfl ?_; clear HS; (try clear F); intro g6 w6 HS; (try simp only [hpn, hpm] at HS); have F := HS.boxes; simp only [boxFacts, and_true] at F) | ((with_reducible refine gate_store (p := 6) rfl ?_); refine ev_store rfl 0 0 HS (seg := [.int .i64 0, .string (⟨#[]⟩ : ByteArray), .slice none 0 0]) rfl rfl rfl rfl rfl rfl (by kernel_rfl) (by simp [wrt]) (by simp [Value.oneCell']) ?_; clear HS; (try clear F); intro w4 HS; (try simp only [hpn, hpm] at HS); have F := HS.boxes; simp only [boxFacts, and_true] at F))
      replace HS := HS.nil 100 q100
      exact bodyPost_ret (results_list (rs := [.cell 6 100, .tmp 7, .tmp 8]) rfl (by simp) (.cell _ _ _ _ _ rfl (HS.boxAt (i := 0) rfl) Try.underlying100 rfl (by kernel_rfl) (.tmp (.tmp .nil)))) rfl ⟨_, rfl, HS.pick [1] (by decide) (by rfl)⟩
    · replace H := zneg c3 H
      replace c3 := eq_false c3
      go_upto_if 24 with (first | ((with_reducible refine gate_dst (N := 6) rfl ?_); refine ev_box rfl HS (by first | (go_simp; done) | (go_simp; rfl)) rfl ?_; clear HS; (try clear F); intro g6 w6 HS; (try simp only [hpn, hpm] at HS); have F := HS.boxes; simp only [boxFacts, and_true] at F))
      by_cases c6 : 6 < a2
      · replace H := zpos c6 H
        replace c6 := eq_true c6
        (try simp only [c6, dcn])
        obtain ⟨rfl, rfl, rfl⟩ := zsome3 H
        go_wp2_with (first | ((with_reducible refine gate_store (p := 6) rfl ?_); refine ev_store rfl 0 0 HS (seg := [.int .i64 0, .string (⟨#[]⟩ : ByteArray), .slice none 0 0]) rfl rfl rfl rfl rfl rfl (by kernel_rfl) (by simp [wrt]) (by simp [Value.oneCell']) ?_; clear HS; (try clear F); intro w7 HS; (try simp only [hpn, hpm] at HS); have F := HS.boxes; simp only [boxFacts, and_true] at F))
        replace HS := HS.nil 100 q100
        exact bodyPost_ret (results_list (rs := [.cell 6 100, .tmp 7, .tmp 8]) rfl (by simp) (.cell _ _ _ _ _ rfl (HS.boxAt (i := 0) rfl) Try.underlying100 rfl (by kernel_rfl) (.tmp (.tmp .nil)))) rfl ⟨_, rfl, HS.pick [1] (by decide) (by rfl)⟩
      · replace H := zneg c6 H
        replace c6 := eq_false c6
        (try simp only [c6, dcn])
        by_cases c9 : 0 ≤ a1
        case neg => exact zno c9 H
        replace H := zpos c9 H
        replace c9 := eq_true c9
        by_cases c10 : a1 < (a0.size : Int)
        case neg => exact zno c10 H
        replace H := zpos c10 H
        replace c10 := eq_true c10
        have hx11 := bt_at a0 a1
        replace H := zbind H; obtain ⟨t16, ht16, H⟩ := H
        by_cases c18 : t16.2.2 = true
        · replace H := zpos c18 H
          go_upto_if 48 with (first | ((with_reducible refine gate_dst (N := 9) rfl ?_); refine ev_box rfl HS (by first | (go_simp; done) | (go_simp; rfl)) rfl ?_; clear HS; (try clear F); intro g9 w9 HS; (try simp only [hpn, hpm] at HS); have F := HS.boxes; simp only [boxFacts, and_true] at F) | ((with_reducible refine gate_store (p := 9) rfl ?_); refine ev_store rfl 1 0 HS (seg := [.int .i64 (wrap64 (bt a0 a1)), .string (⟨#[]⟩ : ByteArray), .slice none 0 0]) rfl rfl rfl rfl rfl rfl (by kernel_rfl) (by simp [wrt]) (by simp [Value.oneCell']) ?_; clear HS; (try clear F); intro w14 HS; (try simp only [hpn, hpm] at HS); have F := HS.boxes; simp only [boxFacts, and_true] at F) | ((with_reducible refine gate_dst (N := 35) rfl ?_); refine ev_call rfl Try.func153 (by kernel_rfl) rfl #[.string a0, .int .i64 (wrap64 (a1 + 1))] rfl (by simp only [List.map_toArray, List.map_cons, List.map_nil]; rfl) ?_; refine (spec_l07Size.calls ht16.out).mono ?_; rintro _ wt16 ⟨rfl, HQ⟩; refine ⟨_, rfl, ?_⟩; replace HS := HS.call HQ; clear HQ; (try clear F); (try simp only [hpn, hpm] at HS); have F := HS.boxes; simp only [boxFacts, and_true] at F; (try simp only [c18])))
          by_cases c19 : (wrap64 ((a0.size : Int) - t16.2.1)) < t16.1
          · replace H := zpos c19 H
            replace c19 := eq_true c19
            (try simp only [c19, dcn])
            obtain ⟨rfl, rfl, rfl⟩ := zsome3 H
            go_wp2_with (first | ((with_reducible refine gate_store (p := 6) rfl ?_); refine ev_store rfl 0 0 HS (seg := [.int .i64 0, .string (⟨#[]⟩ : ByteArray), .slice none 0 0]) rfl rfl rfl rfl rfl rfl (by kernel_rfl) (by simp [wrt]) (by simp [Value.oneCell']) ?_; clear HS; (try clear F); intro w20 HS; (try simp only [hpn, hpm] at HS); have F := HS.boxes; simp only [boxFacts, and_true] at F))
            replace HS := HS.nil 100 q100
            exact bodyPost_ret (results_list (rs := [.cell 6 100, .tmp 7, .tmp 8]) rfl (by simp) (.cell _ _ _ _ _ rfl (HS.boxAt (i := 0) rfl) Try.underlying100 rfl (by kernel_rfl) (.tmp (.tmp .nil)))) rfl ⟨_, rfl, HS.pick [2] (by decide) (by rfl)⟩
          · replace H := zneg c19 H
            replace c19 := eq_false c19
            (try simp only [c19, dcn])
            by_cases c22 : (wrap64 (bt a0 a1)) = 48
            · replace H := zpos c22 H
              have c22a := beq_iff_eq.mpr c22
              have c22b := bne_eq_false_iff_eq.mpr c22
              clear c22
              go_wp2
              replace HS := HS.nil 100 q100
              go_loopg [13] k (fun kq v_13 w' => ∃ (l49 : List S100) (v50 : Value) (x51 : Int), v_13 = .int .i64 x51 ∧ Aside0 (spec_l07Read.l0 kq l49 x51 a0 a1 a2 t16 = some (r1, r2, r3)) ∧ Aside0 (kq ≤ k) ∧ Hp noFP w w' [.box g6 [.int .i64 0, .string (⟨#[]⟩ : ByteArray), .slice none 0 0] 100, .box g9 [.int .i64 (wrap64 (bt a0 a1)), .string (⟨#[]⟩ : ByteArray), v50] 100, .own (Zd.slice 100 q100) l49 [v50]])
              case atStart => exact ⟨_, _, _, rfl, H, ⟨Nat.le_refl _⟩, HS⟩
              case round =>
               clear HS H; (try clear F)
               obtain ⟨l49, v50, x51, rfl, H, HKk48, HS⟩ := hrel
               obtain ⟨B50, d50, rfl, m50⟩ := HS.form 2 rfl
               have F := HS.boxes; simp only [boxFacts, and_true] at F
               cases gk with
               | zero => exact absurd H.out (by simp [spec_l07Read.l0])
               | succ k48 =>
                simp only [spec_l07Read.l0] at H
                by_cases c53 : x51 < (wrap64 (t16.2.1 + t16.1))
                · replace H := zpos c53 H
                  replace c53 := eq_true c53
                  by_cases c54 : 0 ≤ (wrap64 (t16.2.1 + t16.1))
                  case neg => exact zno c54 H
                  replace H := zpos c54 H
                  replace c54 := eq_true c54
                  by_cases c55 : (wrap64 (t16.2.1 + t16.1)) ≤ (a0.size : Int)
                  case neg => exact zno c55 H
                  replace H := zpos c55 H
                  replace c55 := eq_true c55
                  replace H := zbind H; obtain ⟨t56, ht56, H⟩ := H
                  by_cases c63 : t56.2.2 = true
                  · replace H := zpos c63 H
                    go_upto_if 90 with (first | ((with_reducible refine gate_dst (N := 75) rfl ?_); refine ev_val rfl (run_cut rfl rfl Try.underlying9 (.inl ⟨rfl, rfl⟩) (.inr ⟨_, _, rfl, rfl, by have := of_eq_true (eq_true (by decide : (0:Int) ≤ 0)); have := of_eq_true c54; have := of_eq_true c55; omega⟩) (by have := of_eq_true (eq_true (by decide : (0:Int) ≤ 0)); have := of_eq_true c54; have := of_eq_true c55; omega) (by have := of_eq_true (eq_true (by decide : (0:Int) ≤ 0)); have := of_eq_true c54; have := of_eq_true c55; omega)) ?_) | ((with_reducible refine gate_dst (N := 79) rfl ?_); refine ev_call rfl Try.func111 (by kernel_rfl) rfl #[.string (a0.extract 0 ((wrap64 (t16.2.1 + t16.1))).toNat), .int .i64 x51, .int .i64 (wrap64 (a2 + 1))] rfl (by simp only [List.map_toArray, List.map_cons, List.map_nil]; rfl) ?_; refine (IH (by have := HK0.out; have := HKk48.out; omega) ht56.out).mono ?_; rintro _ wt56 ⟨v57, rfl, HQ⟩; refine ⟨_, rfl, ?_⟩; replace HS := HS.call HQ; clear HQ; (try clear F); obtain ⟨B57, d57, rfl, m57⟩ := HS.form 3 rfl; (try simp only [hpn, hpm] at HS); have F := HS.boxes; simp only [boxFacts, and_true] at F) | ((with_reducible refine gate_dst (N := 14) rfl ?_); refine ev_box rfl HS (by first | (go_simp; done) | (go_simp; rfl)) rfl ?_; clear HS; (try clear F); intro g14 w14 HS; (try simp only [hpn, hpm] at HS); have F := HS.boxes; simp only [boxFacts, and_true] at F) | ((with_reducible refine gate_store (p := 14) rfl ?_); refine ev_store rfl 4 0 HS (seg := [.int .i64 t56.1.f0, .string t56.1.f1, .slice B57 t56.1.f2.length d57]) rfl rfl rfl rfl rfl rfl (by kernel_rfl) (by simp [wrt]) (by simp [Value.oneCell']) ?_; clear HS; (try clear F); intro w61 HS; (try simp only [hpn, hpm] at HS); have F := HS.boxes; simp only [boxFacts, and_true] at F; (try simp only [c63])))
                    by_cases c64 : 40 ≤ (l49.length : Int)
                    · replace H := zpos c64 H
                      replace c64 := eq_true c64
                      (try simp only [c64, dcn])
                      obtain ⟨rfl, rfl, rfl⟩ := zsome3 H
                      go_wp2_with (first | ((with_reducible refine gate_store (p := 6) rfl ?_); refine ev_store rfl 0 0 HS (seg := [.int .i64 0, .string (⟨#[]⟩ : ByteArray), .slice none 0 0]) rfl rfl rfl rfl rfl rfl (by kernel_rfl) (by simp [wrt]) (by simp [Value.oneCell']) ?_; clear HS; (try clear F); intro w65 HS; (try simp only [hpn, hpm] at HS); have F := HS.boxes; simp only [boxFacts, and_true] at F))
                      replace HS := HS.nil 100 q100
                      exact bodyPost_ret (results_list (rs := [.cell 6 100, .tmp 7, .tmp 8]) rfl (by simp) (.cell _ _ _ _ _ rfl (HS.boxAt (i := 0) rfl) Try.underlying100 rfl (by kernel_rfl) (.tmp (.tmp .nil)))) rfl ⟨_, rfl, HS.pick [5] (by decide) (by rfl)⟩
                    · replace H := zneg c64 H
                      replace c64 := eq_false c64
                      (try simp only [c64, dcn])
                      by_cases c69 : l49.length + 1 ≤ 2932031007402
                      case neg => exact zno c69 H
                      replace H := zpos c69 H
                      replace c69 := eq_true c69
                      replace H := zlets H; obtain ⟨y70, e_y70, H⟩ := H
                      go_wp2_with (first | ((with_reducible refine gate_dst (N := 95) rfl ?_); refine ev_lit rfl q100 [3] ([t56.1] : List S100) ([.int .i64 t56.1.f0, .string t56.1.f1, .slice B57 t56.1.f2.length d57] ++ []) HS (by first | (go_simp; done) | (go_simp; rfl)) rfl rfl (Nat.le_of_ble_eq_true rfl) (MadeL.cons (js1 := [3]) (c := [.int .i64 t56.1.f0, .string t56.1.f1, .slice B57 t56.1.f2.length d57]) rfl (fun S hd hh => q100_pack (x := t56.1) hd (hh 3 (.own (Zd.slice 100 q100) t56.1.f2 [.slice B57 t56.1.f2.length d57]) rfl) (by decide)) MadeL.nil (by decide)) ?_; clear HS; (try clear F); intro v67 w67 HS; obtain ⟨B67, d67, rfl, m67⟩ := HS.formn 1 5 rfl rfl; (try simp only [hpn, hpm] at HS); have F := HS.boxes; simp only [boxFacts, and_true] at F) | ((with_reducible refine gate_dst (N := 96) rfl ?_); refine ev_append rfl q100 2 5 HS rfl rfl (by decide) rfl rfl rfl Try.underlying98 info100 rfl (by decide) (by decide) (by have := of_eq_true c69; first | omega | (simp only [List.length_cons, List.length_nil, List.length_append, Nat.zero_add] at this ⊢; omega)) ?_; clear HS; (try clear F); intro v70 w70 HS; rw [← e_y70.out] at HS; obtain ⟨B70, d70, rfl, m70⟩ := HS.form 6 rfl; (try simp only [hpn, hpm] at HS); have F := HS.boxes; simp only [boxFacts, and_true] at F) | ((with_reducible refine gate_store (p := 97) rfl ?_); refine ev_store rfl 1 2 HS (seg := [.slice B70 y70.length d70]) rfl rfl rfl rfl rfl rfl (by kernel_rfl) (by simp [wrt]) (by simp [Value.oneCell']) ?_; clear HS; (try clear F); intro w72 HS; (try simp only [hpn, hpm] at HS); have F := HS.boxes; simp only [boxFacts, and_true] at F))
                      go_roundg k48
                      case measure => have := HK0.out; have := HKk48.out; omega
                      case rel => exact ⟨_, _, _, rfl, H, ⟨by have := HK0.out; have := HKk48.out; omega⟩, HS.pick [0, 1, 6] (by decide) (by rfl)⟩
                  · replace H := zneg c63 H
                    replace c63 := eq_false_of_ne_true c63
                    obtain ⟨rfl, rfl, rfl⟩ := zsome3 H
                    go_wp2_with (first | ((with_reducible refine gate_dst (N := 75) rfl ?_); refine ev_val rfl (run_cut rfl rfl Try.underlying9 (.inl ⟨rfl, rfl⟩) (.inr ⟨_, _, rfl, rfl, by have := of_eq_true (eq_true (by decide : (0:Int) ≤ 0)); have := of_eq_true c54; have := of_eq_true c55; omega⟩) (by have := of_eq_true (eq_true (by decide : (0:Int) ≤ 0)); have := of_eq_true c54; have := of_eq_true c55; omega) (by have := of_eq_true (eq_true (by decide : (0:Int) ≤ 0)); have := of_eq_true c54; have := of_eq_true c55; omega)) ?_) | ((with_reducible refine gate_dst (N := 79) rfl ?_); refine ev_call rfl Try.func111 (by kernel_rfl) rfl #[.string (a0.extract 0 ((wrap64 (t16.2.1 + t16.1))).toNat), .int .i64 x51, .int .i64 (wrap64 (a2 + 1))] rfl (by simp only [List.map_toArray, List.map_cons, List.map_nil]; rfl) ?_; refine (IH (by have := HK0.out; have := HKk48.out; omega) ht56.out).mono ?_; rintro _ wt56 ⟨v57, rfl, HQ⟩; refine ⟨_, rfl, ?_⟩; replace HS := HS.call HQ; clear HQ; (try clear F); obtain ⟨B57, d57, rfl, m57⟩ := HS.form 3 rfl; (try simp only [hpn, hpm] at HS); have F := HS.boxes; simp only [boxFacts, and_true] at F) | ((with_reducible refine gate_dst (N := 14) rfl ?_); refine ev_box rfl HS (by first | (go_simp; done) | (go_simp; rfl)) rfl ?_; clear HS; (try clear F); intro g14 w14 HS; (try simp only [hpn, hpm] at HS); have F := HS.boxes; simp only [boxFacts, and_true] at F) | ((with_reducible refine gate_store (p := 14) rfl ?_); refine ev_store rfl 4 0 HS (seg := [.int .i64 t56.1.f0, .string t56.1.f1, .slice B57 t56.1.f2.length d57]) rfl rfl rfl rfl rfl rfl (by kernel_rfl) (by simp [wrt]) (by simp [Value.oneCell']) ?_; clear HS; (try clear F); intro w61 HS; (try simp only [hpn, hpm] at HS); have F := HS.boxes; simp only [boxFacts, and_true] at F; (try simp only [c63])) | ((with_reducible refine gate_store (p := 6) rfl ?_); refine ev_store rfl 0 0 HS (seg := [.int .i64 0, .string (⟨#[]⟩ : ByteArray), .slice none 0 0]) rfl rfl rfl rfl rfl rfl (by kernel_rfl) (by simp [wrt]) (by simp [Value.oneCell']) ?_; clear HS; (try clear F); intro w74 HS; (try simp only [hpn, hpm] at HS); have F := HS.boxes; simp only [boxFacts, and_true] at F))
                    replace HS := HS.nil 100 q100
                    exact bodyPost_ret (results_list (rs := [.cell 6 100, .tmp 7, .tmp 8]) rfl (by simp) (.cell _ _ _ _ _ rfl (HS.boxAt (i := 0) rfl) Try.underlying100 rfl (by kernel_rfl) (.tmp (.tmp .nil)))) rfl ⟨_, rfl, HS.pick [5] (by decide) (by rfl)⟩
                · replace H := zneg c53 H
                  replace c53 := eq_false c53
                  obtain ⟨rfl, rfl, rfl⟩ := zsome3 H
                  go_wp2_with (first | ((with_reducible refine gate_store (p := 6) rfl ?_); refine ev_store rfl 0 0 HS (seg := [.int .i64 (wrap64 (bt a0 a1)), .string (⟨#[]⟩ : ByteArray), .slice B50 l49.length d50]) rfl rfl rfl rfl rfl rfl (by kernel_rfl) (by simp [wrt]) (by simp [Value.oneCell']) ?_; clear HS; (try clear F); intro w76 HS; (try simp only [hpn, hpm] at HS); have F := HS.boxes; simp only [boxFacts, and_true] at F))
                  exact bodyPost_ret (results_list (rs := [.cell 6 100, .tmp 7, .tmp 8]) rfl (by simp) (.cell _ _ _ _ _ rfl (HS.boxAt (i := 0) rfl) Try.underlying100 rfl (by kernel_rfl) (.tmp (.tmp .nil)))) rfl ⟨_, rfl, HS.pick [2] (by decide) (by rfl)⟩
            · replace H := zneg c22 H
              have c22a := beq_eq_false_iff_ne.mpr c22
              have c22b := bne_iff_ne.mpr c22
              clear c22
              by_cases c78 : 0 ≤ t16.2.1
              case neg => exact zno c78 H
              replace H := zpos c78 H
              replace c78 := eq_true c78
              by_cases c79 : t16.2.1 ≤ (wrap64 (t16.2.1 + t16.1))
              case neg => exact zno c79 H
              replace H := zpos c79 H
              replace c79 := eq_true c79
              by_cases c80 : (wrap64 (t16.2.1 + t16.1)) ≤ (a0.size : Int)
              case neg => exact zno c80 H
              replace H := zpos c80 H
              replace c80 := eq_true c80
              obtain ⟨rfl, rfl, rfl⟩ := zsome3 H
              go_wp2_with (first | ((with_reducible refine gate_dst (N := 58) rfl ?_); refine ev_val rfl (run_cut rfl rfl Try.underlying9 (.inr ⟨_, _, rfl, rfl, of_eq_true c78⟩) (.inr ⟨_, _, rfl, rfl, by have := of_eq_true c78; have := of_eq_true c79; have := of_eq_true c80; omega⟩) (by have := of_eq_true c78; have := of_eq_true c79; have := of_eq_true c80; omega) (by have := of_eq_true c78; have := of_eq_true c79; have := of_eq_true c80; omega)) ?_) | ((with_reducible refine gate_store (p := 59) rfl ?_); refine ev_store rfl 1 1 HS (seg := [.string (a0.extract (t16.2.1).toNat ((wrap64 (t16.2.1 + t16.1))).toNat)]) rfl rfl rfl rfl rfl rfl (by kernel_rfl) (by simp [wrt]) (by simp [Value.oneCell']) ?_; clear HS; (try clear F); intro w81 HS; (try simp only [hpn, hpm] at HS); have F := HS.boxes; simp only [boxFacts, and_true] at F) | ((with_reducible refine gate_store (p := 6) rfl ?_); refine ev_store rfl 0 0 HS (seg := [.int .i64 (wrap64 (bt a0 a1)), .string (a0.extract (t16.2.1).toNat ((wrap64 (t16.2.1 + t16.1))).toNat), .slice none 0 0]) rfl rfl rfl rfl rfl rfl (by kernel_rfl) (by simp [wrt]) (by simp [Value.oneCell']) ?_; clear HS; (try clear F); intro w83 HS; (try simp only [hpn, hpm] at HS); have F := HS.boxes; simp only [boxFacts, and_true] at F))
              replace HS := HS.nil 100 q100
              exact bodyPost_ret (results_list (rs := [.cell 6 100, .tmp 7, .tmp 8]) rfl (by simp) (.cell _ _ _ _ _ rfl (HS.boxAt (i := 0) rfl) Try.underlying100 rfl (by kernel_rfl) (.tmp (.tmp .nil)))) rfl ⟨_, rfl, HS.pick [2] (by decide) (by rfl)⟩
        · replace H := zneg c18 H
          replace c18 := eq_false_of_ne_true c18
          obtain ⟨rfl, rfl, rfl⟩ := zsome3 H
          go_wp2_with (first | ((with_reducible refine gate_dst (N := 9) rfl ?_); refine ev_box rfl HS (by first | (go_simp; done) | (go_simp; rfl)) rfl ?_; clear HS; (try clear F); intro g9 w9 HS; (try simp only [hpn, hpm] at HS); have F := HS.boxes; simp only [boxFacts, and_true] at F) | ((with_reducible refine gate_store (p := 9) rfl ?_); refine ev_store rfl 1 0 HS (seg := [.int .i64 (wrap64 (bt a0 a1)), .string (⟨#[]⟩ : ByteArray), .slice none 0 0]) rfl rfl rfl rfl rfl rfl (by kernel_rfl) (by simp [wrt]) (by simp [Value.oneCell']) ?_; clear HS; (try clear F); intro w14 HS; (try simp only [hpn, hpm] at HS); have F := HS.boxes; simp only [boxFacts, and_true] at F) | ((with_reducible refine gate_dst (N := 35) rfl ?_); refine ev_call rfl Try.func153 (by kernel_rfl) rfl #[.string a0, .int .i64 (wrap64 (a1 + 1))] rfl (by simp only [List.map_toArray, List.map_cons, List.map_nil]; rfl) ?_; refine (spec_l07Size.calls ht16.out).mono ?_; rintro _ wt16 ⟨rfl, HQ⟩; refine ⟨_, rfl, ?_⟩; replace HS := HS.call HQ; clear HQ; (try clear F); (try simp only [hpn, hpm] at HS); have F := HS.boxes; simp only [boxFacts, and_true] at F; (try simp only [c18])) | ((with_reducible refine gate_store (p := 6) rfl ?_); refine ev_store rfl 0 0 HS (seg := [.int .i64 0, .string (⟨#[]⟩ : ByteArray), .slice none 0 0]) rfl rfl rfl rfl rfl rfl (by kernel_rfl) (by simp [wrt]) (by simp [Value.oneCell']) ?_; clear HS; (try clear F); intro w85 HS; (try simp only [hpn, hpm] at HS); have F := HS.boxes; simp only [boxFacts, and_true] at F))
          replace HS := HS.nil 100 q100
          exact bodyPost_ret (results_list (rs := [.cell 6 100, .tmp 7, .tmp 8]) rfl (by simp) (.cell _ _ _ _ _ rfl (HS.boxAt (i := 0) rfl) Try.underlying100 rfl (by kernel_rfl) (.tmp (.tmp .nil)))) rfl ⟨_, rfl, HS.pick [2] (by decide) (by rfl)⟩
theorem spec_l07Read.calls {k : Nat} {a0 : ByteArray} {a1 : Int} {a2 : Int} {r1 : S100} {r2 : Int} {r3 : Bool} {w : World} (h : spec_l07Read.f k a0 a1 a2 = some (r1, r2, r3)) :
    Calls Try.prog 111 #[.string a0, .int .i64 a1, .int .i64 a2] w (fun e w' => ∃ v0_ : Value, e = .returned (.tuple #[.agg #[.int .i64 r1.f0, .string r1.f1, v0_], .int .i64 r2, .bool r3]) ∧ Hp noFP w w' [.own (Zd.slice 100 q100) r1.f2 [v0_]]) := spec_l07Read.calls_ k (Nat.le_refl k) h
/-! ### spec_l07Plain: function 179 -/
def spec_l07Plain.l0 : Nat → Int → S100 → Option (Bool)
  | 0, _, _ => none
  | k + 1, x24, a0 => (if x24 < (a0.f1.size : Int) then (if 0 ≤ x24 then (if x24 < (a0.f1.size : Int) then (if (bt a0.f1 x24) < 32 then (some false) else (if 126 < (bt a0.f1 x24) then (some false) else (spec_l07Plain.l0 k (wrap64 (x24 + 1)) a0))) else none) else none) else (some true))
def spec_l07Plain.f (k : Nat) (a0 : S100) : Option (Bool) := (if a0.f0 = 1 then (if a0.f1.toList = ([0] : List UInt8) then (some true) else (some (a0.f1.toList == ([255] : List UInt8)))) else (if a0.f0 = 2 then ((spec_l01In.f (a0.f1.size : Int) 1 5).bind fun t6 => (if t6 = true then (if 0 < (a0.f1.size : Int) then (if 128 ≤ (bt a0.f1 0) then (some false) else (if (bt a0.f1 0) = 0 then (if (a0.f1.size : Int) = 1 then (some true) else (if 1 < (a0.f1.size : Int) then (some (decide (128 ≤ (bt a0.f1 1)))) else none)) else (some true))) else none) else (some false))) else (if a0.f0 = 12 then (spec_l07Plain.l0 k 0 a0) else (some (a0.f0 == 4)))))
set_option maxHeartbeats 16000000 in
theorem spec_l07Plain.calls {k : Nat} {a0 : S100} {Ap0 : Option Addr} {np0 cp0 : Nat} {r : Bool} {w : World} (h : spec_l07Plain.f k a0 = some r) (gp0 : k100.C w Ap0 np0 a0.f2) (lp0 : np0 ≤ cp0) :
    Calls Try.prog 179 #[.agg #[.int .i64 a0.f0, .string a0.f1, .slice Ap0 np0 cp0]] w (fun e w' => e = .returned (.bool r) ∧ Hp noFP w w' []) := by
 obtain rfl := C_len gp0
 have HS := Hp.start w
 have H := Aside0.mk h
 clear h
 unfold spec_l07Plain.f at H
 go_enter Try.func179, Try.ntmps179
 go_upto_if 6 with (first | ((with_reducible refine gate_dst (N := 1) rfl ?_); refine ev_box rfl HS (by first | (go_simp; done) | (go_simp; rfl)) rfl ?_; clear HS; (try clear F); intro g1 w1 HS; (try simp only [hpn, hpm] at HS); have F := HS.boxes; simp only [boxFacts, and_true] at F))
 by_cases c3 : a0.f0 = 1
 · replace H := zpos c3 H
   have c3a := beq_iff_eq.mpr c3
   have c3b := bne_eq_false_iff_eq.mpr c3
   clear c3
   (try simp only [c3a, c3b, dcn])
   by_cases c4 : a0.f1.toList = ([0] : List UInt8)
   · replace H := zpos c4 H
     have c4a := beq_iff_eq.mpr c4
     have c4b := bne_eq_false_iff_eq.mpr c4
     clear c4
     obtain rfl := zsome H
     go_wp2
     go_ret
     exact ⟨rfl, HS.pick [] (by decide) (by rfl)⟩
   · replace H := zneg c4 H
     have c4a := beq_eq_false_iff_ne.mpr c4
     have c4b := bne_iff_ne.mpr c4
     clear c4
     obtain rfl := zsome H
     go_wp2
     go_ret
     exact ⟨rfl, HS.pick [] (by decide) (by rfl)⟩
 · replace H := zneg c3 H
   have c3a := beq_eq_false_iff_ne.mpr c3
   have c3b := bne_iff_ne.mpr c3
   clear c3
   (try simp only [c3a, c3b, dcn])
   by_cases c5 : a0.f0 = 2
   · replace H := zpos c5 H
     have c5a := beq_iff_eq.mpr c5
     have c5b := bne_eq_false_iff_eq.mpr c5
     clear c5
     replace H := zbind H; obtain ⟨t6, ht6, H⟩ := H
     by_cases c8 : t6 = true
     · replace H := zpos c8 H
       subst c8
       by_cases c9 : 0 < (a0.f1.size : Int)
       case neg => exact zno c9 H
       replace H := zpos c9 H
       replace c9 := eq_true c9
       have c9n : (0 < a0.f1.size) = True := eq_true (by have := of_eq_true c9; omega)
       go_upto_if 28 with (first | ((with_reducible refine gate_dst (N := 21) rfl ?_); refine ev_call rfl Try.func72 (by kernel_rfl) rfl #[.int .i64 (a0.f1.size : Int), .int .i64 1, .int .i64 5] rfl (by simp only [List.map_toArray, List.map_cons, List.map_nil]; rfl) ?_; refine (spec_l01In.calls ht6.out).mono ?_; rintro _ wt6 ⟨rfl, HQ⟩; refine ⟨_, rfl, ?_⟩; replace HS := HS.call HQ; clear HQ; (try clear F); (try simp only [hpn, hpm] at HS); have F := HS.boxes; simp only [boxFacts, and_true] at F; have hx10 : ∀ h : 0 < a0.f1.size, ((a0.f1[0]'h).toNat : Int) = bt a0.f1 0 := bt_at a0.f1 0; have hz11 : 0 < a0.f1.size := (by have := of_eq_true c9; omega)))
       by_cases c12 : 128 ≤ (bt a0.f1 0)
       · replace H := zpos c12 H
         replace c12 := eq_true c12
         (try simp only [c12, dcn])
         obtain rfl := zsome H
         go_wp2
         go_ret
         exact ⟨rfl, HS.pick [] (by decide) (by rfl)⟩
       · replace H := zneg c12 H
         replace c12 := eq_false c12
         (try simp only [c12, dcn])
         have hx13 : ∀ h : 0 < a0.f1.size, ((a0.f1[0]'h).toNat : Int) = bt a0.f1 0 := bt_at a0.f1 0
         have hz14 : 0 < a0.f1.size := (by have := of_eq_true c9; omega)
         by_cases c15 : (bt a0.f1 0) = 0
         · replace H := zpos c15 H
           have c15a := beq_iff_eq.mpr c15
           have c15b := bne_eq_false_iff_eq.mpr c15
           clear c15
           by_cases c16 : (a0.f1.size : Int) = 1
           · replace H := zpos c16 H
             have c16a := beq_iff_eq.mpr c16
             have c16b := bne_eq_false_iff_eq.mpr c16
             clear c16
             obtain rfl := zsome H
             go_wp2
             go_ret
             exact ⟨rfl, HS.pick [] (by decide) (by rfl)⟩
           · replace H := zneg c16 H
             have c16a := beq_eq_false_iff_ne.mpr c16
             have c16b := bne_iff_ne.mpr c16
             clear c16
             by_cases c17 : 1 < (a0.f1.size : Int)
             case neg => exact zno c17 H
             replace H := zpos c17 H
             replace c17 := eq_true c17
             have c17n : (1 < a0.f1.size) = True := eq_true (by have := of_eq_true c17; omega)
             have hx18 : ∀ h : 1 < a0.f1.size, ((a0.f1[1]'h).toNat : Int) = bt a0.f1 1 := bt_at a0.f1 1
             have hz19 : 1 < a0.f1.size := (by have := of_eq_true c17; omega)
             obtain rfl := zsome H
             go_wp2
             go_ret
             exact ⟨rfl, HS.pick [] (by decide) (by rfl)⟩
         · replace H := zneg c15 H
           have c15a := beq_eq_false_iff_ne.mpr c15
           have c15b := bne_iff_ne.mpr c15
           clear c15
           obtain rfl := zsome H
           go_wp2
           go_ret
           exact ⟨rfl, HS.pick [] (by decide) (by rfl)⟩
     · replace H := zneg c8 H
       replace c8 := eq_false_of_ne_true c8
       subst c8
       obtain rfl := zsome H
       go_wp2_with (first | ((with_reducible refine gate_dst (N := 21) rfl ?_); refine ev_call rfl Try.func72 (by kernel_rfl) rfl #[.int .i64 (a0.f1.size : Int), .int .i64 1, .int .i64 5] rfl (by simp only [List.map_toArray, List.map_cons, List.map_nil]; rfl) ?_; refine (spec_l01In.calls ht6.out).mono ?_; rintro _ wt6 ⟨rfl, HQ⟩; refine ⟨_, rfl, ?_⟩; replace HS := HS.call HQ; clear HQ; (try clear F); (try simp only [hpn, hpm] at HS); have F := HS.boxes; simp only [boxFacts, and_true] at F))
       go_ret
       exact ⟨rfl, HS.pick [] (by decide) (by rfl)⟩
   · replace H := zneg c5 H
     have c5a := beq_eq_false_iff_ne.mpr c5
     have c5b := bne_iff_ne.mpr c5
     clear c5
     by_cases c20 : a0.f0 = 12
     · replace H := zpos c20 H
       have c20a := beq_iff_eq.mpr c20
       have c20b := bne_eq_false_iff_eq.mpr c20
       clear c20
       go_wp2
       go_loopg [3] k (fun kq v_3 w' => ∃ (x24 : Int), v_3 = .int .i64 x24 ∧ Aside0 (spec_l07Plain.l0 kq x24 a0 = some r) ∧ Aside0 (kq ≤ k) ∧ Hp noFP w w' [.box g1 [.int .i64 a0.f0, .string a0.f1, .slice Ap0 a0.f2.length cp0] 100])
       case atStart => exact ⟨_, rfl, H, ⟨Nat.le_refl _⟩, HS⟩
       case round =>
        clear HS H; (try clear F)
        obtain ⟨x24, rfl, H, HKk23, HS⟩ := hrel
        have F := HS.boxes; simp only [boxFacts, and_true] at F
        cases gk with
        | zero => exact absurd H.out (by simp [spec_l07Plain.l0])
        | succ k23 =>
         simp only [spec_l07Plain.l0] at H
         by_cases c26 : x24 < (a0.f1.size : Int)
         · replace H := zpos c26 H
           replace c26 := eq_true c26
           by_cases c27 : 0 ≤ x24
           case neg => exact zno c27 H
           replace H := zpos c27 H
           replace c27 := eq_true c27
           by_cases c28 : x24 < (a0.f1.size : Int)
           case neg => exact zno c28 H
           replace H := zpos c28 H
           replace c28 := eq_true c28
           have hx29 := bt_at a0.f1 x24
           by_cases c30 : (bt a0.f1 x24) < 32
           · replace H := zpos c30 H
             replace c30 := eq_true c30
             obtain rfl := zsome H
             go_wp2
             go_ret
             exact ⟨rfl, HS.pick [] (by decide) (by rfl)⟩
           · replace H := zneg c30 H
             replace c30 := eq_false c30
             have hx31 := bt_at a0.f1 x24
             by_cases c32 : 126 < (bt a0.f1 x24)
             · replace H := zpos c32 H
               replace c32 := eq_true c32
               obtain rfl := zsome H
               go_wp2
               go_ret
               exact ⟨rfl, HS.pick [] (by decide) (by rfl)⟩
             · replace H := zneg c32 H
               replace c32 := eq_false c32
               go_wp2
               go_roundg k23
               case measure => have := HKk23.out; omega
               case rel => exact ⟨_, rfl, H, ⟨by have := HKk23.out; omega⟩, HS.pick [0] (by decide) (by rfl)⟩
         · replace H := zneg c26 H
           replace c26 := eq_false c26
           obtain rfl := zsome H
           go_wp2
           go_ret
           exact ⟨rfl, HS.pick [] (by decide) (by rfl)⟩
     · replace H := zneg c20 H
       have c20a := beq_eq_false_iff_ne.mpr c20
       have c20b := bne_iff_ne.mpr c20
       clear c20
       obtain rfl := zsome H
       go_wp2
       go_ret
       exact ⟨rfl, HS.pick [] (by decide) (by rfl)⟩
/-! ### spec_l07Right: function 155 -/
mutual
def spec_l07Right.l0 : Nat → Int → S100 → Int → Option (Bool)
  | 0, _, _, _ => none
  | k + 1, x10, a0, a1 => (if x10 < (a0.f2.length : Int) then (if 0 ≤ x10 then (if x10 < (a0.f2.length : Int) then ((spec_l07Right.f k (rd_T100 a0.f2 x10) (wrap64 (a1 + 1))).bind fun t16 => (if t16 = true then (spec_l07Right.l0 k (wrap64 (x10 + 1)) a0 a1) else (some false))) else none) else none) else (some true))
def spec_l07Right.f : Nat → S100 → Int → Option (Bool)
  | 0, _, _ => none
  | k + 1, a0, a1 => (if a0.f0 = 48 then (if a0.f1.toList = ([] : List UInt8) then (if 40 < (a0.f2.length : Int) then (some false) else (if 6 ≤ a1 then (some false) else (spec_l07Right.l0 k 0 a0 a1))) else (some false)) else (if (a0.f2.length : Int) = 0 then ((spec_l07Plain.f k a0).bind fun t20 => (some t20)) else (some false)))
end
set_option maxHeartbeats 16000000 in
theorem spec_l07Right.calls_ (K : Nat) : ∀ {k : Nat} (hK : k ≤ K) {a0 : S100} {a1 : Int} {Ap0 : Option Addr} {np0 cp0 : Nat} {r : Bool} {w : World} (h : spec_l07Right.f k a0 a1 = some r) (gp0 : k100.C w Ap0 np0 a0.f2) (lp0 : np0 ≤ cp0),
    Calls Try.prog 155 #[.agg #[.int .i64 a0.f0, .string a0.f1, .slice Ap0 np0 cp0], .int .i64 a1] w (fun e w' => e = .returned (.bool r) ∧ Hp noFP w w' []) := by
  induction K with
  | zero =>
    intro k hK a0 a1 Ap0 np0 cp0 r w h gp0 lp0
    obtain rfl : k = 0 := by omega
    exact absurd h (by simp [spec_l07Right.f])
  | succ K IH =>
    intro k hK a0 a1 Ap0 np0 cp0 r w h gp0 lp0
    cases k with
    | zero => exact absurd h (by simp [spec_l07Right.f])
    | succ k =>
    have HK0 : Aside0 (k ≤ K) := ⟨by omega⟩
    clear hK
    obtain rfl := C_len gp0
    have HS := Hp.start w
    have H := Aside0.mk h
    clear h
    simp only [spec_l07Right.f] at H
    go_enter Try.func155, Try.ntmps155
    go_upto_if 8 with (first | ((with_reducible refine gate_dst (N := 2) rfl ?_); refine ev_box rfl HS (by first | (go_simp; done) | (go_simp; rfl)) rfl ?_; clear HS; (try clear F); intro g2 w2 HS; (try simp only [hpn, hpm] at HS); have F := HS.boxes; simp only [boxFacts, and_true] at F))
    by_cases c3 : a0.f0 = 48
    · replace H := zpos c3 H
      have c3a := beq_iff_eq.mpr c3
      have c3b := bne_eq_false_iff_eq.mpr c3
      clear c3
      (try simp only [c3a, c3b, dcn])
      by_cases c4 : a0.f1.toList = ([] : List UInt8)
      · replace H := zpos c4 H
        have c4a := beq_iff_eq.mpr c4
        have c4b := bne_eq_false_iff_eq.mpr c4
        have c4e := List.isEmpty_iff.mpr c4
        clear c4
        by_cases c5 : 40 < (a0.f2.length : Int)
        · replace H := zpos c5 H
          replace c5 := eq_true c5
          obtain rfl := zsome H
          go_wp2
          go_ret
          exact ⟨rfl, HS.pick [] (by decide) (by rfl)⟩
        · replace H := zneg c5 H
          replace c5 := eq_false c5
          by_cases c6 : 6 ≤ a1
          · replace H := zpos c6 H
            replace c6 := eq_true c6
            obtain rfl := zsome H
            go_wp2
            go_ret
            exact ⟨rfl, HS.pick [] (by decide) (by rfl)⟩
          · replace H := zneg c6 H
            replace c6 := eq_false c6
            go_wp2
            go_loopg [5] k (fun kq v_5 w' => ∃ (x10 : Int), v_5 = .int .i64 x10 ∧ Aside0 (spec_l07Right.l0 kq x10 a0 a1 = some r) ∧ Aside0 (kq ≤ k) ∧ Hp noFP w w' [.box g2 [.int .i64 a0.f0, .string a0.f1, .slice Ap0 a0.f2.length cp0] 100])
            case atStart => exact ⟨_, rfl, H, ⟨Nat.le_refl _⟩, HS⟩
            case round =>
             clear HS H; (try clear F)
             obtain ⟨x10, rfl, H, HKk9, HS⟩ := hrel
             have F := HS.boxes; simp only [boxFacts, and_true] at F
             cases gk with
             | zero => exact absurd H.out (by simp [spec_l07Right.l0])
             | succ k9 =>
              simp only [spec_l07Right.l0] at H
              by_cases c12 : x10 < (a0.f2.length : Int)
              · replace H := zpos c12 H
                replace c12 := eq_true c12
                by_cases c13 : 0 ≤ x10
                case neg => exact zno c13 H
                replace H := zpos c13 H
                replace c13 := eq_true c13
                by_cases c14 : x10 < (a0.f2.length : Int)
                case neg => exact zno c14 H
                replace H := zpos c14 H
                replace c14 := eq_true c14
                obtain ⟨ad15, B15_2, d15_2, rfl, e15_0, e15_1, e15_2, m15_2, y15_2⟩ := at_T100 gp0 x10 (of_eq_true c13) (of_eq_true c14)
                have e15_0_15 := (HS.keepc e15_0)
                have e15_1_15 := (HS.keepc e15_1)
                have e15_2_15 := (HS.keepc e15_2)
                replace H := zbind H; obtain ⟨t16, ht16, H⟩ := H
                go_upto_if 45 with (first | ((with_reducible refine gate_dst (N := 44) rfl ?_); refine ev_call rfl Try.func155 (by kernel_rfl) rfl #[.agg #[.int .i64 ((rd_T100 a0.f2 x10).f0), .string ((rd_T100 a0.f2 x10).f1), .slice B15_2 (rd_T100 a0.f2 x10).f2.length d15_2], .int .i64 (wrap64 (a1 + 1))] rfl (by simp only [List.map_toArray, List.map_cons, List.map_nil]; rfl) ?_; refine (IH (by have := HK0.out; have := HKk9.out; omega) ht16.out (HS.ro y15_2) m15_2).mono ?_; rintro _ wt16 ⟨rfl, HQ⟩; refine ⟨_, rfl, ?_⟩; replace HS := HS.call HQ; clear HQ; (try clear F); (try simp only [hpn, hpm] at HS); have F := HS.boxes; simp only [boxFacts, and_true] at F))
                by_cases c18 : t16 = true
                · replace H := zpos c18 H
                  subst c18
                  (try simp only [dcn, if_true, Bool.false_eq_true, if_false])
                  go_wp2
                  go_roundg k9
                  case measure => have := HK0.out; have := HKk9.out; omega
                  case rel => exact ⟨_, rfl, H, ⟨by have := HK0.out; have := HKk9.out; omega⟩, HS.pick [0] (by decide) (by rfl)⟩
                · replace H := zneg c18 H
                  replace c18 := eq_false_of_ne_true c18
                  subst c18
                  (try simp only [dcn, if_true, Bool.false_eq_true, if_false])
                  obtain rfl := zsome H
                  go_wp2
                  go_ret
                  exact ⟨rfl, HS.pick [] (by decide) (by rfl)⟩
              · replace H := zneg c12 H
                replace c12 := eq_false c12
                obtain rfl := zsome H
                go_wp2
                go_ret
                exact ⟨rfl, HS.pick [] (by decide) (by rfl)⟩
      · replace H := zneg c4 H
        have c4a := beq_eq_false_iff_ne.mpr c4
        have c4b := bne_iff_ne.mpr c4
        have c4e := List.isEmpty_eq_false_iff.mpr c4
        clear c4
        obtain rfl := zsome H
        go_wp2
        go_ret
        exact ⟨rfl, HS.pick [] (by decide) (by rfl)⟩
    · replace H := zneg c3 H
      have c3a := beq_eq_false_iff_ne.mpr c3
      have c3b := bne_iff_ne.mpr c3
      clear c3
      (try simp only [c3a, c3b, dcn])
      by_cases c19 : (a0.f2.length : Int) = 0
      · replace H := zpos c19 H
        have c19a := beq_iff_eq.mpr c19
        have c19b := bne_eq_false_iff_eq.mpr c19
        clear c19
        replace H := zbind H; obtain ⟨t20, ht20, H⟩ := H
        obtain rfl := zsome H
        go_wp2_with (first | ((with_reducible refine gate_dst (N := 15) rfl ?_); refine gate_guard (by rfl) ?_; refine ev_call rfl Try.func179 (by kernel_rfl) rfl #[.agg #[.int .i64 a0.f0, .string a0.f1, .slice Ap0 a0.f2.length cp0]] rfl (by simp only [List.map_toArray, List.map_cons, List.map_nil]; rfl) ?_; refine (spec_l07Plain.calls ht20.out (HS.ro gp0) lp0).mono ?_; rintro _ wt20 ⟨rfl, HQ⟩; refine ⟨_, rfl, ?_⟩; replace HS := HS.call HQ; clear HQ; (try clear F); (try simp only [hpn, hpm] at HS); have F := HS.boxes; simp only [boxFacts, and_true] at F))
        go_ret
        exact ⟨rfl, HS.pick [] (by decide) (by rfl)⟩
      · replace H := zneg c19 H
        have c19a := beq_eq_false_iff_ne.mpr c19
        have c19b := bne_iff_ne.mpr c19
        clear c19
        obtain rfl := zsome H
        go_wp2
        go_ret
        exact ⟨rfl, HS.pick [] (by decide) (by rfl)⟩
theorem spec_l07Right.calls {k : Nat} {a0 : S100} {a1 : Int} {Ap0 : Option Addr} {np0 cp0 : Nat} {r : Bool} {w : World} (h : spec_l07Right.f k a0 a1 = some r) (gp0 : k100.C w Ap0 np0 a0.f2) (lp0 : np0 ≤ cp0) :
    Calls Try.prog 155 #[.agg #[.int .i64 a0.f0, .string a0.f1, .slice Ap0 np0 cp0], .int .i64 a1] w (fun e w' => e = .returned (.bool r) ∧ Hp noFP w w' []) := spec_l07Right.calls_ k (Nat.le_refl k) h gp0 lp0
/-! ### spec_ItemOk: function 113 -/
def spec_ItemOk.f (k : Nat) (a0 : S100) : Option (Bool) := ((spec_l07Right.f k a0 0).bind fun t3 => (some t3))
set_option maxHeartbeats 16000000 in
theorem spec_ItemOk.calls {k : Nat} {a0 : S100} {Ap0 : Option Addr} {np0 cp0 : Nat} {r : Bool} {w : World} (h : spec_ItemOk.f k a0 = some r) (gp0 : k100.C w Ap0 np0 a0.f2) (lp0 : np0 ≤ cp0) :
    Calls Try.prog 113 #[.agg #[.int .i64 a0.f0, .string a0.f1, .slice Ap0 np0 cp0]] w (fun e w' => e = .returned (.bool r) ∧ Hp noFP w w' []) := by
 obtain rfl := C_len gp0
 have HS := Hp.start w
 have H := Aside0.mk h
 clear h
 unfold spec_ItemOk.f at H
 go_enter Try.func113, Try.ntmps113
 replace H := zbind H; obtain ⟨t3, ht3, H⟩ := H
 obtain rfl := zsome H
 go_wp2_with (first | ((with_reducible refine gate_dst (N := 1) rfl ?_); refine ev_box rfl HS (by first | (go_simp; done) | (go_simp; rfl)) rfl ?_; clear HS; (try clear F); intro g1 w1 HS; (try simp only [hpn, hpm] at HS); have F := HS.boxes; simp only [boxFacts, and_true] at F) | ((with_reducible refine gate_dst (N := 4) rfl ?_); refine ev_call rfl Try.func155 (by kernel_rfl) rfl #[.agg #[.int .i64 a0.f0, .string a0.f1, .slice Ap0 a0.f2.length cp0], .int .i64 0] rfl (by simp only [List.map_toArray, List.map_cons, List.map_nil]; rfl) ?_; refine (spec_l07Right.calls ht3.out (HS.ro gp0) lp0).mono ?_; rintro _ wt3 ⟨rfl, HQ⟩; refine ⟨_, rfl, ?_⟩; replace HS := HS.call HQ; clear HQ; (try clear F); (try simp only [hpn, hpm] at HS); have F := HS.boxes; simp only [boxFacts, and_true] at F))
 go_ret
 exact ⟨rfl, HS.pick [] (by decide) (by rfl)⟩
/-! ### spec_l07Length: function 178 -/
def spec_l07Length.l0 : Nat → Int → ByteArray → Option (ByteArray)
  | 0, _, _ => none
  | k + 1, x13, x14 => (if 0 < x13 then (if (strOfNums ([((Int.tmod x13 256) % 256)] : List Int)).size + x14.size ≤ 9223372036854775807 then (spec_l07Length.l0 k (wrap64 (Int.tdiv x13 256)) ((strOfNums ([((Int.tmod x13 256) % 256)] : List Int)) ++ x14)) else none) else (if (strOfNums ([((wrap64 (128 + (x14.size : Int))) % 256)] : List Int)).size + x14.size ≤ 9223372036854775807 then (some ((strOfNums ([((wrap64 (128 + (x14.size : Int))) % 256)] : List Int)) ++ x14)) else none))
def spec_l07Length.f (k : Nat) (a0 : Int) : Option (ByteArray) := (if a0 < 128 then (some (strOfNums ([(a0 % 256)] : List Int))) else (spec_l07Length.l0 k a0 (⟨#[]⟩ : ByteArray)))
set_option maxHeartbeats 16000000 in
theorem spec_l07Length.calls {k : Nat} {a0 : Int} {r : ByteArray} {w : World} (h : spec_l07Length.f k a0 = some r) :
    Calls Try.prog 178 #[.int .i64 a0] w (fun e w' => e = .returned (.string r) ∧ Hp noFP w w' []) := by
 have HS := Hp.start w
 have H := Aside0.mk h
 clear h
 unfold spec_l07Length.f at H
 go_enter Try.func178, Try.ntmps178
 by_cases c1 : a0 < 128
 · replace H := zpos c1 H
   replace c1 := eq_true c1
   obtain rfl := zsome H
   go_wp2_with (first | ((with_reducible refine gate_dst (N := 8) rfl ?_); refine ev_lit rfl (Zd.int .u8) [] ([(a0 % 256)] : List Int) ([.int .u8 (a0 % 256)] ++ []) HS (by first | (go_simp; done) | (go_simp; rfl)) rfl rfl (Nat.le_of_ble_eq_true rfl) (MadeL.cons (js1 := []) (c := [.int .u8 (a0 % 256)]) rfl (made_flat (fun _ => rfl)) MadeL.nil (by decide)) ?_; clear HS; (try clear F); intro v2 w2 HS; obtain ⟨B2, d2, rfl, m2⟩ := HS.formn 1 0 rfl rfl; (try simp only [hpn, hpm] at HS)) | ((with_reducible refine gate_dst (N := 9) rfl ?_); refine ev_val rfl (run_str rfl rfl Try.underlying210 Try.underlying5 Try.underlying9 (HS.rd 0 rfl)) ?_))
   go_ret
   exact ⟨rfl, HS.pick [] (by decide) (by rfl)⟩
 · replace H := zneg c1 H
   replace c1 := eq_false c1
   go_wp2
   go_loopg [0, 3] k (fun kq v_0 v_3 w' => ∃ (x13 : Int) (x14 : ByteArray), v_0 = .int .i64 x13 ∧ v_3 = .string x14 ∧ Aside0 (spec_l07Length.l0 kq x13 x14 = some r) ∧ Aside0 (kq ≤ k) ∧ Hp noFP w w' [])
   case atStart => exact ⟨_, _, rfl, rfl, H, ⟨Nat.le_refl _⟩, HS⟩
   case round =>
    clear HS H; (try clear F)
    obtain ⟨x13, x14, rfl, rfl, H, HKk12, HS⟩ := hrel
    cases gk with
    | zero => exact absurd H.out (by simp [spec_l07Length.l0])
    | succ k12 =>
     simp only [spec_l07Length.l0] at H
     by_cases c16 : 0 < x13
     · replace H := zpos c16 H
       replace c16 := eq_true c16
       by_cases c19 : (strOfNums ([((Int.tmod x13 256) % 256)] : List Int)).size + x14.size ≤ 9223372036854775807
       case neg => exact zno c19 H
       replace H := zpos c19 H
       replace c19 := eq_true c19
       go_wp2_with (first | ((with_reducible refine gate_dst (N := 15) rfl ?_); refine ev_lit rfl (Zd.int .u8) [] ([((Int.tmod x13 256) % 256)] : List Int) ([.int .u8 ((Int.tmod x13 256) % 256)] ++ []) HS (by first | (go_simp; done) | (go_simp; rfl)) rfl rfl (Nat.le_of_ble_eq_true rfl) (MadeL.cons (js1 := []) (c := [.int .u8 ((Int.tmod x13 256) % 256)]) rfl (made_flat (fun _ => rfl)) MadeL.nil (by decide)) ?_; clear HS; (try clear F); intro v17 w17 HS; obtain ⟨B17, d17, rfl, m17⟩ := HS.formn 1 0 rfl rfl; (try simp only [hpn, hpm] at HS)) | ((with_reducible refine gate_dst (N := 16) rfl ?_); refine ev_val rfl (run_str rfl rfl Try.underlying210 Try.underlying5 Try.underlying9 (HS.rd 0 rfl)) ?_) | ((with_reducible refine gate_dst (N := 18) rfl ?_); refine ev_val rfl (run_cat rfl rfl rfl (of_eq_true c19)) ?_))
       go_roundg k12
       case measure => have := HKk12.out; omega
       case rel => exact ⟨_, _, rfl, rfl, H, ⟨by have := HKk12.out; omega⟩, HS.pick [] (by decide) (by rfl)⟩
     · replace H := zneg c16 H
       replace c16 := eq_false c16
       by_cases c22 : (strOfNums ([((wrap64 (128 + (x14.size : Int))) % 256)] : List Int)).size + x14.size ≤ 9223372036854775807
       case neg => exact zno c22 H
       replace H := zpos c22 H
       replace c22 := eq_true c22
       obtain rfl := zsome H
       go_wp2_with (first | ((with_reducible refine gate_dst (N := 25) rfl ?_); refine ev_lit rfl (Zd.int .u8) [] ([((wrap64 (128 + (x14.size : Int))) % 256)] : List Int) ([.int .u8 ((wrap64 (128 + (x14.size : Int))) % 256)] ++ []) HS (by first | (go_simp; done) | (go_simp; rfl)) rfl rfl (Nat.le_of_ble_eq_true rfl) (MadeL.cons (js1 := []) (c := [.int .u8 ((wrap64 (128 + (x14.size : Int))) % 256)]) rfl (made_flat (fun _ => rfl)) MadeL.nil (by decide)) ?_; clear HS; (try clear F); intro v20 w20 HS; obtain ⟨B20, d20, rfl, m20⟩ := HS.formn 1 0 rfl rfl; (try simp only [hpn, hpm] at HS)) | ((with_reducible refine gate_dst (N := 26) rfl ?_); refine ev_val rfl (run_str rfl rfl Try.underlying210 Try.underlying5 Try.underlying9 (HS.rd 0 rfl)) ?_) | ((with_reducible refine gate_dst (N := 28) rfl ?_); refine ev_val rfl (run_cat rfl rfl rfl (of_eq_true c22)) ?_))
       go_ret
       exact ⟨rfl, HS.pick [] (by decide) (by rfl)⟩
end Go.Proofs.Ytoaoncnbimcdgaa.F
