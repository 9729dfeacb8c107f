/- Functions of the program and of the law, and that their calls do what is written here. -/
import Derived.Test.YtoaoncnbimcdgaaDoorZgFnExactReadCerta
import Derived.Test.YtoaoncnbimcdgaaDoorZgFnExactReadCertb
namespace Go.Proofs.YtoaoncnbimcdgaaDoor.F
open Go.RowKit Go.Proofs.YtoaoncnbimcdgaaDoorW.PrintWords Go.Proofs.YtoaoncnbimcdgaaDoorW.PrintLast Go.Proofs.YtoaoncnbimcdgaaDoorW.PrintMore Go.Proofs.YtoaoncnbimcdgaaDoor.Z
attribute [local go_sem] max2_int min2_int max_two min_two max_three min_three max_four min_four
set_option linter.unusedVariables false
set_option linter.unusedSimpArgs false
set_option maxRecDepth 100000
/-! ### spec_l07Read: function 93 -/
mutual
def spec_l07Read.l0 : Nat → (List S65) → Int → ByteArray → Int → Int → Int × Int × Bool → Option (S65 × Int × Bool)
  | 0, _, _, _, _, _, _ => none
  | k + 1, l49, x51, a0, a1, a2, t16 => (if x51 < (wrap64 (t16.2.1 + t16.1)) then (if 0 ≤ (wrap64 (t16.2.1 + t16.1)) then (if (wrap64 (t16.2.1 + t16.1)) ≤ (a0.size : Int) then ((spec_l07Read.f k (a0.extract 0 ((wrap64 (t16.2.1 + t16.1))).toNat) x51 (wrap64 (a2 + 1))).bind fun t56 => (if t56.2.2 = true then (if 40 ≤ (l49.length : Int) then (some ((⟨0, (⟨#[]⟩ : ByteArray), ([] : List S65)⟩ : S65), 0, false)) else (if l49.length + 1 ≤ 2932031007402 then (lets (l49 ++ ([t56.1] : List S65)) fun y70 => (spec_l07Read.l0 k y70 t56.2.1 a0 a1 a2 t16)) else none)) else (some ((⟨0, (⟨#[]⟩ : ByteArray), ([] : List S65)⟩ : S65), 0, false)))) else none) else none) else (some ((⟨(wrap64 (bt a0 a1)), (⟨#[]⟩ : ByteArray), l49⟩ : S65), (wrap64 (t16.2.1 + t16.1)), true)))
def spec_l07Read.f : Nat → ByteArray → Int → Int → Option (S65 × Int × Bool)
  | 0, _, _, _ => none
  | k + 1, a0, a1, a2 => (if (a0.size : Int) ≤ a1 then (some ((⟨0, (⟨#[]⟩ : ByteArray), ([] : List S65)⟩ : S65), 0, false)) else (if 6 < a2 then (some ((⟨0, (⟨#[]⟩ : ByteArray), ([] : List S65)⟩ : S65), 0, false)) else (if 0 ≤ a1 then (if a1 < (a0.size : Int) then ((spec_l07Size.f k a0 (wrap64 (a1 + 1))).bind fun t16 => (if t16.2.2 = true then (if (wrap64 ((a0.size : Int) - t16.2.1)) < t16.1 then (some ((⟨0, (⟨#[]⟩ : ByteArray), ([] : List S65)⟩ : S65), 0, false)) else (if (wrap64 (bt a0 a1)) = 48 then (spec_l07Read.l0 k [] t16.2.1 a0 a1 a2 t16) else (if 0 ≤ t16.2.1 then (if t16.2.1 ≤ (wrap64 (t16.2.1 + t16.1)) then (if (wrap64 (t16.2.1 + t16.1)) ≤ (a0.size : Int) then (some ((⟨(wrap64 (bt a0 a1)), (a0.extract (t16.2.1).toNat ((wrap64 (t16.2.1 + t16.1))).toNat), ([] : List S65)⟩ : S65), (wrap64 (t16.2.1 + t16.1)), true)) else none) else none) else none))) else (some ((⟨0, (⟨#[]⟩ : ByteArray), ([] : List S65)⟩ : S65), 0, false)))) else none) else none)))
end
set_option maxHeartbeats 16000000 in
theorem spec_l07Read.calls_ (K : Nat) : ∀ {k : Nat} (hK : k ≤ K) {a0 : ByteArray} {a1 : Int} {a2 : Int} {r1 : S65} {r2 : Int} {r3 : Bool} {w : World} (h : spec_l07Read.f k a0 a1 a2 = some (r1, r2, r3)),
    Calls Tryd.prog 93 #[.string a0, .int .i64 a1, .int .i64 a2] w (fun e w' => ∃ v0_ : Value, e = .returned (.tuple #[.agg #[.int .i64 r1.f0, .string r1.f1, v0_], .int .i64 r2, .bool r3]) ∧ Hp noFP w w' [.own (Zd.slice 65 q65) r1.f2 [v0_]]) := by
  induction K with
  | zero =>
    intro k hK a0 a1 a2 r1 r2 r3 w h
    obtain rfl : k = 0 := by omega
    exact absurd h (by simp [spec_l07Read.f])
  | succ K IH =>
    intro k hK a0 a1 a2 r1 r2 r3 w h
    cases k with
    | zero => exact absurd h (by simp [spec_l07Read.f])
    | succ k =>
    have HK0 : Aside0 (k ≤ K) := ⟨by omega⟩
    clear hK
    have HS := Hp.start w
    have H := Aside0.mk h
    clear h
    simp only [spec_l07Read.f] at H
    go_enter Tryd.func93, Tryd.ntmps93
    by_cases c3 : (a0.size : Int) ≤ a1
    case pos =>
     replace H := zpos c3 H
     replace c3 := eq_true c3
     obtain ⟨rfl, rfl, rfl⟩ := zsome3 H
     go_wp2_with (first | ((with_reducible refine gate_dst (N := 6) rfl ?_); refine ev_box rfl HS (by first | (go_simp; done) | (go_simp; rfl)) rfl ?_; clear HS; (try clear F); intro g6 w6 HS; (try simp only [hpn, hpm] at HS); have F := HS.boxes; simp only [bxn] at F) | ((with_reducible refine gate_store (p := 6) rfl ?_); refine ev_store rfl 0 0 HS (seg := [.int .i64 0, .string (⟨#[]⟩ : ByteArray), .slice none 0 0]) rfl rfl rfl rfl rfl rfl (by kernel_rfl) (by simp [wrt]) (by simp [Value.oneCell']) ?_; clear HS; (try clear F); intro w4 HS; (try simp only [hpn, hpm] at HS); have F := HS.boxes; simp only [bxn] at F))
     replace HS := HS.nil 65 q65
     exact bodyPost_ret (results_list (rs := [.cell 6 65, .tmp 7, .tmp 8]) rfl (by simp) (.cell _ _ _ _ _ rfl (HS.boxAt (i := 0) rfl) Tryd.underlying65 rfl (by kernel_rfl) (.tmp (.tmp .nil)))) rfl ⟨_, rfl, HS.pick [1] (by decide) (by rfl)⟩
    replace H := zneg c3 H
    replace c3 := eq_false c3
    go_upto_if 24 with (first | ((with_reducible refine gate_dst (N := 6) rfl ?_); refine ev_box rfl HS (by first | (go_simp; done) | (go_simp; rfl)) rfl ?_; clear HS; (try clear F); intro g6 w6 HS; (try simp only [hpn, hpm] at HS); have F := HS.boxes; simp only [bxn] at F))
    by_cases c6 : 6 < a2
    case pos =>
     replace H := zpos c6 H
     replace c6 := eq_true c6
     (try simp only [c6, dcn])
     obtain ⟨rfl, rfl, rfl⟩ := zsome3 H
     go_wp2_with (first | ((with_reducible refine gate_store (p := 6) rfl ?_); refine ev_store rfl 0 0 HS (seg := [.int .i64 0, .string (⟨#[]⟩ : ByteArray), .slice none 0 0]) rfl rfl rfl rfl rfl rfl (by kernel_rfl) (by simp [wrt]) (by simp [Value.oneCell']) ?_; clear HS; (try clear F); intro w7 HS; (try simp only [hpn, hpm] at HS); have F := HS.boxes; simp only [bxn] at F))
     replace HS := HS.nil 65 q65
     exact bodyPost_ret (results_list (rs := [.cell 6 65, .tmp 7, .tmp 8]) rfl (by simp) (.cell _ _ _ _ _ rfl (HS.boxAt (i := 0) rfl) Tryd.underlying65 rfl (by kernel_rfl) (.tmp (.tmp .nil)))) rfl ⟨_, rfl, HS.pick [1] (by decide) (by rfl)⟩
    replace H := zneg c6 H
    replace c6 := eq_false c6
    (try simp only [c6, dcn])
    by_cases c9 : 0 ≤ a1
    case neg => exact zno c9 H
    replace H := zpos c9 H
    replace c9 := eq_true c9
    by_cases c10 : a1 < (a0.size : Int)
    case neg => exact zno c10 H
    replace H := zpos c10 H
    replace c10 := eq_true c10
    have hx11 := bt_at a0 a1
    replace H := zbind H; obtain ⟨t16, ht16, H⟩ := H
    by_cases c18 : t16.2.2 = true
    case neg =>
     replace H := zneg c18 H
     replace c18 := eq_false_of_ne_true c18
     obtain ⟨rfl, rfl, rfl⟩ := zsome3 H
     go_wp2_with (first | ((with_reducible refine gate_dst (N := 9) rfl ?_); refine ev_box rfl HS (by first | (go_simp; done) | (go_simp; rfl)) rfl ?_; clear HS; (try clear F); intro g9 w9 HS; (try simp only [hpn, hpm] at HS); have F := HS.boxes; simp only [bxn] at F) | ((with_reducible refine gate_store (p := 9) rfl ?_); refine ev_store rfl 1 0 HS (seg := [.int .i64 (wrap64 (bt a0 a1)), .string (⟨#[]⟩ : ByteArray), .slice none 0 0]) rfl rfl rfl rfl rfl rfl (by kernel_rfl) (by simp [wrt]) (by simp [Value.oneCell']) ?_; clear HS; (try clear F); intro w14 HS; (try simp only [hpn, hpm] at HS); have F := HS.boxes; simp only [bxn] at F) | ((with_reducible refine gate_dst (N := 35) rfl ?_); refine ev_call rfl Tryd.func108 (by kernel_rfl) rfl #[.string a0, .int .i64 (wrap64 (a1 + 1))] rfl (by simp only [mpn]; rfl) ?_; refine (spec_l07Size.calls ht16.out).mono ?_; rintro _ wt16 ⟨rfl, HQ⟩; refine ⟨_, rfl, ?_⟩; replace HS := HS.call HQ; clear HQ; (try clear F); (try simp only [hpn, hpm] at HS); have F := HS.boxes; simp only [bxn] at F; (try simp only [c18])) | ((with_reducible refine gate_store (p := 6) rfl ?_); refine ev_store rfl 0 0 HS (seg := [.int .i64 0, .string (⟨#[]⟩ : ByteArray), .slice none 0 0]) rfl rfl rfl rfl rfl rfl (by kernel_rfl) (by simp [wrt]) (by simp [Value.oneCell']) ?_; clear HS; (try clear F); intro w85 HS; (try simp only [hpn, hpm] at HS); have F := HS.boxes; simp only [bxn] at F))
     replace HS := HS.nil 65 q65
     exact bodyPost_ret (results_list (rs := [.cell 6 65, .tmp 7, .tmp 8]) rfl (by simp) (.cell _ _ _ _ _ rfl (HS.boxAt (i := 0) rfl) Tryd.underlying65 rfl (by kernel_rfl) (.tmp (.tmp .nil)))) rfl ⟨_, rfl, HS.pick [2] (by decide) (by rfl)⟩
    replace H := zpos c18 H
    go_upto_if 48 with (first | ((with_reducible refine gate_dst (N := 9) rfl ?_); refine ev_box rfl HS (by first | (go_simp; done) | (go_simp; rfl)) rfl ?_; clear HS; (try clear F); intro g9 w9 HS; (try simp only [hpn, hpm] at HS); have F := HS.boxes; simp only [bxn] at F) | ((with_reducible refine gate_store (p := 9) rfl ?_); refine ev_store rfl 1 0 HS (seg := [.int .i64 (wrap64 (bt a0 a1)), .string (⟨#[]⟩ : ByteArray), .slice none 0 0]) rfl rfl rfl rfl rfl rfl (by kernel_rfl) (by simp [wrt]) (by simp [Value.oneCell']) ?_; clear HS; (try clear F); intro w14 HS; (try simp only [hpn, hpm] at HS); have F := HS.boxes; simp only [bxn] at F) | ((with_reducible refine gate_dst (N := 35) rfl ?_); refine ev_call rfl Tryd.func108 (by kernel_rfl) rfl #[.string a0, .int .i64 (wrap64 (a1 + 1))] rfl (by simp only [mpn]; rfl) ?_; refine (spec_l07Size.calls ht16.out).mono ?_; rintro _ wt16 ⟨rfl, HQ⟩; refine ⟨_, rfl, ?_⟩; replace HS := HS.call HQ; clear HQ; (try clear F); (try simp only [hpn, hpm] at HS); have F := HS.boxes; simp only [bxn] at F; (try simp only [c18])))
    by_cases c19 : (wrap64 ((a0.size : Int) - t16.2.1)) < t16.1
    case pos =>
     replace H := zpos c19 H
     replace c19 := eq_true c19
     (try simp only [c19, dcn])
     obtain ⟨rfl, rfl, rfl⟩ := zsome3 H
     go_wp2_with (first | ((with_reducible refine gate_store (p := 6) rfl ?_); refine ev_store rfl 0 0 HS (seg := [.int .i64 0, .string (⟨#[]⟩ : ByteArray), .slice none 0 0]) rfl rfl rfl rfl rfl rfl (by kernel_rfl) (by simp [wrt]) (by simp [Value.oneCell']) ?_; clear HS; (try clear F); intro w20 HS; (try simp only [hpn, hpm] at HS); have F := HS.boxes; simp only [bxn] at F))
     replace HS := HS.nil 65 q65
     exact bodyPost_ret (results_list (rs := [.cell 6 65, .tmp 7, .tmp 8]) rfl (by simp) (.cell _ _ _ _ _ rfl (HS.boxAt (i := 0) rfl) Tryd.underlying65 rfl (by kernel_rfl) (.tmp (.tmp .nil)))) rfl ⟨_, rfl, HS.pick [2] (by decide) (by rfl)⟩
    replace H := zneg c19 H
    replace c19 := eq_false c19
    (try simp only [c19, dcn])
    by_cases c22 : (wrap64 (bt a0 a1)) = 48
    case neg =>
     replace H := zneg c22 H
     have c22a := beq_eq_false_iff_ne.mpr c22
     have c22b := bne_iff_ne.mpr c22
     clear c22
     by_cases c78 : 0 ≤ t16.2.1
     case neg => exact zno c78 H
     replace H := zpos c78 H
     replace c78 := eq_true c78
     by_cases c79 : t16.2.1 ≤ (wrap64 (t16.2.1 + t16.1))
     case neg => exact zno c79 H
     replace H := zpos c79 H
     replace c79 := eq_true c79
     by_cases c80 : (wrap64 (t16.2.1 + t16.1)) ≤ (a0.size : Int)
     case neg => exact zno c80 H
     replace H := zpos c80 H
     replace c80 := eq_true c80
     obtain ⟨rfl, rfl, rfl⟩ := zsome3 H
     go_wp2_with (first | ((with_reducible refine gate_dst (N := 58) rfl ?_); refine ev_val rfl (run_cut rfl rfl Tryd.underlying9 (.inr ⟨_, _, rfl, rfl, of_eq_true c78⟩) (.inr ⟨_, _, rfl, rfl, by have := of_eq_true c78; have := of_eq_true c79; have := of_eq_true c80; omega⟩) (by have := of_eq_true c78; have := of_eq_true c79; have := of_eq_true c80; omega) (by have := of_eq_true c78; have := of_eq_true c79; have := of_eq_true c80; omega)) ?_) | ((with_reducible refine gate_store (p := 59) rfl ?_); refine ev_store rfl 1 1 HS (seg := [.string (a0.extract (t16.2.1).toNat ((wrap64 (t16.2.1 + t16.1))).toNat)]) rfl rfl rfl rfl rfl rfl (by kernel_rfl) (by simp [wrt]) (by simp [Value.oneCell']) ?_; clear HS; (try clear F); intro w81 HS; (try simp only [hpn, hpm] at HS); have F := HS.boxes; simp only [bxn] at F) | ((with_reducible refine gate_store (p := 6) rfl ?_); refine ev_store rfl 0 0 HS (seg := [.int .i64 (wrap64 (bt a0 a1)), .string (a0.extract (t16.2.1).toNat ((wrap64 (t16.2.1 + t16.1))).toNat), .slice none 0 0]) rfl rfl rfl rfl rfl rfl (by kernel_rfl) (by simp [wrt]) (by simp [Value.oneCell']) ?_; clear HS; (try clear F); intro w83 HS; (try simp only [hpn, hpm] at HS); have F := HS.boxes; simp only [bxn] at F))
     replace HS := HS.nil 65 q65
     exact bodyPost_ret (results_list (rs := [.cell 6 65, .tmp 7, .tmp 8]) rfl (by simp) (.cell _ _ _ _ _ rfl (HS.boxAt (i := 0) rfl) Tryd.underlying65 rfl (by kernel_rfl) (.tmp (.tmp .nil)))) rfl ⟨_, rfl, HS.pick [2] (by decide) (by rfl)⟩
    replace H := zpos c22 H
    have c22a := beq_iff_eq.mpr c22
    have c22b := bne_eq_false_iff_eq.mpr c22
    clear c22
    go_wp2
    replace HS := HS.nil 65 q65
    go_loopg [13] k (fun kq v_13 w' => ∃ (l49 : List S65) (v50 : Value) (x51 : Int), v_13 = .int .i64 x51 ∧ Aside0 (spec_l07Read.l0 kq l49 x51 a0 a1 a2 t16 = some (r1, r2, r3)) ∧ Aside0 (kq ≤ k) ∧ Hp noFP w w' [.box g6 [.int .i64 0, .string (⟨#[]⟩ : ByteArray), .slice none 0 0] 65, .box g9 [.int .i64 (wrap64 (bt a0 a1)), .string (⟨#[]⟩ : ByteArray), v50] 65, .own (Zd.slice 65 q65) l49 [v50]])
    case atStart => exact ⟨_, _, _, rfl, H, ⟨Nat.le_refl _⟩, HS⟩
    case round =>
     clear HS H; (try clear F)
     obtain ⟨l49, v50, x51, rfl, H, HKk48, HS⟩ := hrel
     obtain ⟨B50, d50, rfl, m50⟩ := HS.form 2 rfl
     have F := HS.boxes; simp only [bxn] at F
     cases gk with
     | zero => exact absurd H.out (by simp [spec_l07Read.l0])
     | succ k48 =>
      simp only [spec_l07Read.l0] at H
      by_cases c53 : x51 < (wrap64 (t16.2.1 + t16.1))
      case neg =>
       replace H := zneg c53 H
       replace c53 := eq_false c53
       obtain ⟨rfl, rfl, rfl⟩ := zsome3 H
       go_wp2_with (first | ((with_reducible refine gate_store (p := 6) rfl ?_); refine ev_store rfl 0 0 HS (seg := [.int .i64 (wrap64 (bt a0 a1)), .string (⟨#[]⟩ : ByteArray), .slice B50 l49.length d50]) rfl rfl rfl rfl rfl rfl (by kernel_rfl) (by simp [wrt]) (by simp [Value.oneCell']) ?_; clear HS; (try clear F); intro w76 HS; (try simp only [hpn, hpm] at HS); have F := HS.boxes; simp only [bxn] at F))
       exact bodyPost_ret (results_list (rs := [.cell 6 65, .tmp 7, .tmp 8]) rfl (by simp) (.cell _ _ _ _ _ rfl (HS.boxAt (i := 0) rfl) Tryd.underlying65 rfl (by kernel_rfl) (.tmp (.tmp .nil)))) rfl ⟨_, rfl, HS.pick [2] (by decide) (by rfl)⟩
      replace H := zpos c53 H
      replace c53 := eq_true c53
      by_cases c54 : 0 ≤ (wrap64 (t16.2.1 + t16.1))
      case neg => exact zno c54 H
      replace H := zpos c54 H
      replace c54 := eq_true c54
      by_cases c55 : (wrap64 (t16.2.1 + t16.1)) ≤ (a0.size : Int)
      case neg => exact zno c55 H
      replace H := zpos c55 H
      replace c55 := eq_true c55
      replace H := zbind H; obtain ⟨t56, ht56, H⟩ := H
      by_cases c63 : t56.2.2 = true
      case neg =>
       replace H := zneg c63 H
       replace c63 := eq_false_of_ne_true c63
       obtain ⟨rfl, rfl, rfl⟩ := zsome3 H
       go_wp2_with (first | ((with_reducible refine gate_dst (N := 75) rfl ?_); refine ev_val rfl (run_cut rfl rfl Tryd.underlying9 (.inl ⟨rfl, rfl⟩) (.inr ⟨_, _, rfl, rfl, by have := of_eq_true (eq_true (by decide : (0:Int) ≤ 0)); have := of_eq_true c54; have := of_eq_true c55; omega⟩) (by have := of_eq_true (eq_true (by decide : (0:Int) ≤ 0)); have := of_eq_true c54; have := of_eq_true c55; omega) (by have := of_eq_true (eq_true (by decide : (0:Int) ≤ 0)); have := of_eq_true c54; have := of_eq_true c55; omega)) ?_) | ((with_reducible refine gate_dst (N := 79) rfl ?_); refine ev_call rfl Tryd.func93 (by kernel_rfl) rfl #[.string (a0.extract 0 ((wrap64 (t16.2.1 + t16.1))).toNat), .int .i64 x51, .int .i64 (wrap64 (a2 + 1))] rfl (by simp only [mpn]; rfl) ?_; refine (IH (by have := HK0.out; have := HKk48.out; omega) ht56.out).mono ?_; rintro _ wt56 ⟨v57, rfl, HQ⟩; refine ⟨_, rfl, ?_⟩; replace HS := HS.call HQ; clear HQ; (try clear F); obtain ⟨B57, d57, rfl, m57⟩ := HS.form 3 rfl; (try simp only [hpn, hpm] at HS); have F := HS.boxes; simp only [bxn] at F) | ((with_reducible refine gate_dst (N := 14) rfl ?_); refine ev_box rfl HS (by first | (go_simp; done) | (go_simp; rfl)) rfl ?_; clear HS; (try clear F); intro g14 w14 HS; (try simp only [hpn, hpm] at HS); have F := HS.boxes; simp only [bxn] at F) | ((with_reducible refine gate_store (p := 14) rfl ?_); refine ev_store rfl 4 0 HS (seg := [.int .i64 t56.1.f0, .string t56.1.f1, .slice B57 t56.1.f2.length d57]) rfl rfl rfl rfl rfl rfl (by kernel_rfl) (by simp [wrt]) (by simp [Value.oneCell']) ?_; clear HS; (try clear F); intro w61 HS; (try simp only [hpn, hpm] at HS); have F := HS.boxes; simp only [bxn] at F; (try simp only [c63])) | ((with_reducible refine gate_store (p := 6) rfl ?_); refine ev_store rfl 0 0 HS (seg := [.int .i64 0, .string (⟨#[]⟩ : ByteArray), .slice none 0 0]) rfl rfl rfl rfl rfl rfl (by kernel_rfl) (by simp [wrt]) (by simp [Value.oneCell']) ?_; clear HS; (try clear F); intro w74 HS; (try simp only [hpn, hpm] at HS); have F := HS.boxes; simp only [bxn] at F))
       replace HS := HS.nil 65 q65
       exact bodyPost_ret (results_list (rs := [.cell 6 65, .tmp 7, .tmp 8]) rfl (by simp) (.cell _ _ _ _ _ rfl (HS.boxAt (i := 0) rfl) Tryd.underlying65 rfl (by kernel_rfl) (.tmp (.tmp .nil)))) rfl ⟨_, rfl, HS.pick [5] (by decide) (by rfl)⟩
      replace H := zpos c63 H
      go_upto_if 90 with (first | ((with_reducible refine gate_dst (N := 75) rfl ?_); refine ev_val rfl (run_cut rfl rfl Tryd.underlying9 (.inl ⟨rfl, rfl⟩) (.inr ⟨_, _, rfl, rfl, by have := of_eq_true (eq_true (by decide : (0:Int) ≤ 0)); have := of_eq_true c54; have := of_eq_true c55; omega⟩) (by have := of_eq_true (eq_true (by decide : (0:Int) ≤ 0)); have := of_eq_true c54; have := of_eq_true c55; omega) (by have := of_eq_true (eq_true (by decide : (0:Int) ≤ 0)); have := of_eq_true c54; have := of_eq_true c55; omega)) ?_) | ((with_reducible refine gate_dst (N := 79) rfl ?_); refine ev_call rfl Tryd.func93 (by kernel_rfl) rfl #[.string (a0.extract 0 ((wrap64 (t16.2.1 + t16.1))).toNat), .int .i64 x51, .int .i64 (wrap64 (a2 + 1))] rfl (by simp only [mpn]; rfl) ?_; refine (IH (by have := HK0.out; have := HKk48.out; omega) ht56.out).mono ?_; rintro _ wt56 ⟨v57, rfl, HQ⟩; refine ⟨_, rfl, ?_⟩; replace HS := HS.call HQ; clear HQ; (try clear F); obtain ⟨B57, d57, rfl, m57⟩ := HS.form 3 rfl; (try simp only [hpn, hpm] at HS); have F := HS.boxes; simp only [bxn] at F) | ((with_reducible refine gate_dst (N := 14) rfl ?_); refine ev_box rfl HS (by first | (go_simp; done) | (go_simp; rfl)) rfl ?_; clear HS; (try clear F); intro g14 w14 HS; (try simp only [hpn, hpm] at HS); have F := HS.boxes; simp only [bxn] at F) | ((with_reducible refine gate_store (p := 14) rfl ?_); refine ev_store rfl 4 0 HS (seg := [.int .i64 t56.1.f0, .string t56.1.f1, .slice B57 t56.1.f2.length d57]) rfl rfl rfl rfl rfl rfl (by kernel_rfl) (by simp [wrt]) (by simp [Value.oneCell']) ?_; clear HS; (try clear F); intro w61 HS; (try simp only [hpn, hpm] at HS); have F := HS.boxes; simp only [bxn] at F; (try simp only [c63])))
      by_cases c64 : 40 ≤ (l49.length : Int)
      case pos =>
       replace H := zpos c64 H
       replace c64 := eq_true c64
       (try simp only [c64, dcn])
       obtain ⟨rfl, rfl, rfl⟩ := zsome3 H
       go_wp2_with (first | ((with_reducible refine gate_store (p := 6) rfl ?_); refine ev_store rfl 0 0 HS (seg := [.int .i64 0, .string (⟨#[]⟩ : ByteArray), .slice none 0 0]) rfl rfl rfl rfl rfl rfl (by kernel_rfl) (by simp [wrt]) (by simp [Value.oneCell']) ?_; clear HS; (try clear F); intro w65 HS; (try simp only [hpn, hpm] at HS); have F := HS.boxes; simp only [bxn] at F))
       replace HS := HS.nil 65 q65
       exact bodyPost_ret (results_list (rs := [.cell 6 65, .tmp 7, .tmp 8]) rfl (by simp) (.cell _ _ _ _ _ rfl (HS.boxAt (i := 0) rfl) Tryd.underlying65 rfl (by kernel_rfl) (.tmp (.tmp .nil)))) rfl ⟨_, rfl, HS.pick [5] (by decide) (by rfl)⟩
      replace H := zneg c64 H
      replace c64 := eq_false c64
      (try simp only [c64, dcn])
      by_cases c69 : l49.length + 1 ≤ 2932031007402
      case neg => exact zno c69 H
      replace H := zpos c69 H
      replace c69 := eq_true c69
      replace H := zlets H; obtain ⟨y70, e_y70, H⟩ := H
      go_wp2_with (first | ((with_reducible refine gate_dst (N := 95) rfl ?_); refine ev_lit rfl q65 [3] ([t56.1] : List S65) ([.int .i64 t56.1.f0, .string t56.1.f1, .slice B57 t56.1.f2.length d57] ++ []) HS (by first | (go_simp; done) | (go_simp; rfl)) rfl rfl (Nat.le_of_ble_eq_true rfl) (MadeL.cons (js1 := [3]) (c := [.int .i64 t56.1.f0, .string t56.1.f1, .slice B57 t56.1.f2.length d57]) rfl (fun S hd hh => q65_pack (x := t56.1) hd (hh 3 (.own (Zd.slice 65 q65) t56.1.f2 [.slice B57 t56.1.f2.length d57]) rfl) (by decide)) MadeL.nil (by decide)) ?_; clear HS; (try clear F); intro v67 w67 HS; obtain ⟨B67, d67, rfl, m67⟩ := HS.formn 1 5 rfl rfl; (try simp only [hpn, hpm] at HS); have F := HS.boxes; simp only [bxn] at F) | ((with_reducible refine gate_dst (N := 96) rfl ?_); refine ev_append rfl q65 2 5 HS rfl rfl (by decide) rfl rfl rfl Tryd.underlying63 info65 rfl (by decide) (by decide) (by have := of_eq_true c69; first | omega | (simp only [List.length_cons, List.length_nil, List.length_append, Nat.zero_add] at this ⊢; omega)) ?_; clear HS; (try clear F); intro v70 w70 HS; rw [← e_y70.out] at HS; obtain ⟨B70, d70, rfl, m70⟩ := HS.form 6 rfl; (try simp only [hpn, hpm] at HS); have F := HS.boxes; simp only [bxn] at F) | ((with_reducible refine gate_store (p := 97) rfl ?_); refine ev_store rfl 1 2 HS (seg := [.slice B70 y70.length d70]) rfl rfl rfl rfl rfl rfl (by kernel_rfl) (by simp [wrt]) (by simp [Value.oneCell']) ?_; clear HS; (try clear F); intro w72 HS; (try simp only [hpn, hpm] at HS); have F := HS.boxes; simp only [bxn] at F))
      go_roundg k48
      case measure => have := HK0.out; have := HKk48.out; omega
      case rel => exact ⟨_, _, _, rfl, H, ⟨by have := HK0.out; have := HKk48.out; omega⟩, HS.pick [0, 1, 6] (by decide) (by rfl)⟩
theorem spec_l07Read.calls {k : Nat} {a0 : ByteArray} {a1 : Int} {a2 : Int} {r1 : S65} {r2 : Int} {r3 : Bool} {w : World} (h : spec_l07Read.f k a0 a1 a2 = some (r1, r2, r3)) :
    Calls Tryd.prog 93 #[.string a0, .int .i64 a1, .int .i64 a2] w (fun e w' => ∃ v0_ : Value, e = .returned (.tuple #[.agg #[.int .i64 r1.f0, .string r1.f1, v0_], .int .i64 r2, .bool r3]) ∧ Hp noFP w w' [.own (Zd.slice 65 q65) r1.f2 [v0_]]) := spec_l07Read.calls_ k (Nat.le_refl k) h
/-! ### spec_ReadItem: function 47 -/
def spec_ReadItem.f (k : Nat) (a0 : ByteArray) : Option (S65 × Bool) := (if 4000 < (a0.size : Int) then (some ((⟨0, (⟨#[]⟩ : ByteArray), ([] : List S65)⟩ : S65), false)) else ((spec_l07Read.f k a0 0 0).bind fun t6 => ((spec_ItemText.f k t6.1).bind fun t13 => (if t6.2.2 = true then (if t6.2.1 = (a0.size : Int) then (if t13.2 = true then (if t13.1.toList = a0.toList then (some ((⟨t6.1.f0, t6.1.f1, t6.1.f2⟩ : S65), true)) else (some ((⟨0, (⟨#[]⟩ : ByteArray), ([] : List S65)⟩ : S65), false))) else (some ((⟨0, (⟨#[]⟩ : ByteArray), ([] : List S65)⟩ : S65), false))) else (some ((⟨0, (⟨#[]⟩ : ByteArray), ([] : List S65)⟩ : S65), false))) else (some ((⟨0, (⟨#[]⟩ : ByteArray), ([] : List S65)⟩ : S65), false))))))
set_option maxHeartbeats 16000000 in
theorem spec_ReadItem.calls {k : Nat} {a0 : ByteArray} {r1 : S65} {r2 : Bool} {w : World} (h : spec_ReadItem.f k a0 = some (r1, r2)) :
    Calls Tryd.prog 47 #[.string a0] w (fun e w' => ∃ v0_ : Value, e = .returned (.tuple #[.agg #[.int .i64 r1.f0, .string r1.f1, v0_], .bool r2]) ∧ Hp noFP w w' [.own (Zd.slice 65 q65) r1.f2 [v0_]]) := by
 have HS := Hp.start w
 have H := Aside0.mk h
 clear h
 unfold spec_ReadItem.f at H
 go_enter Tryd.func47, Tryd.ntmps47
 go_upto_if 11 with (first | ((with_reducible refine gate_dst (N := 2) rfl ?_); refine ev_box rfl HS (by first | (go_simp; done) | (go_simp; rfl)) rfl ?_; clear HS; (try clear F); intro g2 w2 HS; (try simp only [hpn, hpm] at HS); have F := HS.boxes; simp only [bxn] at F))
 by_cases c3 : 4000 < (a0.size : Int)
 case pos =>
  replace H := zpos c3 H
  replace c3 := eq_true c3
  (try simp only [c3, dcn])
  obtain ⟨rfl, rfl⟩ := zsome2 H
  go_wp2_with (first | ((with_reducible refine gate_store (p := 2) rfl ?_); refine ev_store rfl 0 0 HS (seg := [.int .i64 0, .string (⟨#[]⟩ : ByteArray), .slice none 0 0]) rfl rfl rfl rfl rfl rfl (by kernel_rfl) (by simp [wrt]) (by simp [Value.oneCell']) ?_; clear HS; (try clear F); intro w4 HS; (try simp only [hpn, hpm] at HS); have F := HS.boxes; simp only [bxn] at F))
  replace HS := HS.nil 65 q65
  exact bodyPost_ret (results_list (rs := [.cell 2 65, .tmp 3]) rfl (by simp) (.cell _ _ _ _ _ rfl (HS.boxAt (i := 0) rfl) Tryd.underlying65 rfl (by kernel_rfl) (.tmp .nil))) rfl ⟨_, rfl, HS.pick [1] (by decide) (by rfl)⟩
 replace H := zneg c3 H
 replace c3 := eq_false c3
 (try simp only [c3, dcn])
 replace H := zbind H; obtain ⟨t6, ht6, H⟩ := H
 replace H := zbind H; obtain ⟨t13, ht13, H⟩ := H
 by_cases c15 : t6.2.2 = true
 case neg =>
  replace H := zneg c15 H
  replace c15 := eq_false_of_ne_true c15
  obtain ⟨rfl, rfl⟩ := zsome2 H
  go_wp2_with (first | ((with_reducible refine gate_dst (N := 15) rfl ?_); refine ev_call rfl Tryd.func93 (by kernel_rfl) rfl #[.string a0, .int .i64 0, .int .i64 0] rfl (by simp only [mpn]; rfl) ?_; refine (spec_l07Read.calls ht6.out).mono ?_; rintro _ wt6 ⟨v7, rfl, HQ⟩; refine ⟨_, rfl, ?_⟩; replace HS := HS.call HQ; clear HQ; (try clear F); obtain ⟨B7, d7, rfl, m7⟩ := HS.form 1 rfl; (try simp only [hpn, hpm] at HS); have F := HS.boxes; simp only [bxn] at F) | ((with_reducible refine gate_dst (N := 4) rfl ?_); refine ev_box rfl HS (by first | (go_simp; done) | (go_simp; rfl)) rfl ?_; clear HS; (try clear F); intro g4 w4 HS; (try simp only [hpn, hpm] at HS); have F := HS.boxes; simp only [bxn] at F) | ((with_reducible refine gate_store (p := 4) rfl ?_); refine ev_store rfl 2 0 HS (seg := [.int .i64 t6.1.f0, .string t6.1.f1, .slice B7 t6.1.f2.length d7]) rfl rfl rfl rfl rfl rfl (by kernel_rfl) (by simp [wrt]) (by simp [Value.oneCell']) ?_; clear HS; (try clear F); intro w11 HS; (try simp only [hpn, hpm] at HS); have F := HS.boxes; simp only [bxn] at F) | ((with_reducible refine gate_dst (N := 21) rfl ?_); refine ev_call rfl Tryd.func35 (by kernel_rfl) rfl #[.agg #[.int .i64 t6.1.f0, .string t6.1.f1, .slice B7 t6.1.f2.length d7]] rfl (by simp only [mpn]; rfl) ?_; refine (spec_ItemText.calls ht13.out (HS.rd 1 rfl) m7).mono ?_; rintro _ wt13 ⟨rfl, HQ⟩; refine ⟨_, rfl, ?_⟩; replace HS := HS.call HQ; clear HQ; (try clear F); (try simp only [hpn, hpm] at HS); have F := HS.boxes; simp only [bxn] at F; (try simp only [c15])) | ((with_reducible refine gate_store (p := 2) rfl ?_); refine ev_store rfl 0 0 HS (seg := [.int .i64 0, .string (⟨#[]⟩ : ByteArray), .slice none 0 0]) rfl rfl rfl rfl rfl rfl (by kernel_rfl) (by simp [wrt]) (by simp [Value.oneCell']) ?_; clear HS; (try clear F); intro w27 HS; (try simp only [hpn, hpm] at HS); have F := HS.boxes; simp only [bxn] at F))
  replace HS := HS.nil 65 q65
  exact bodyPost_ret (results_list (rs := [.cell 2 65, .tmp 3]) rfl (by simp) (.cell _ _ _ _ _ rfl (HS.boxAt (i := 0) rfl) Tryd.underlying65 rfl (by kernel_rfl) (.tmp .nil))) rfl ⟨_, rfl, HS.pick [3] (by decide) (by rfl)⟩
 replace H := zpos c15 H
 by_cases c16 : t6.2.1 = (a0.size : Int)
 case neg =>
  replace H := zneg c16 H
  have c16a := beq_eq_false_iff_ne.mpr c16
  have c16b := bne_iff_ne.mpr c16
  clear c16
  obtain ⟨rfl, rfl⟩ := zsome2 H
  go_wp2_with (first | ((with_reducible refine gate_dst (N := 15) rfl ?_); refine ev_call rfl Tryd.func93 (by kernel_rfl) rfl #[.string a0, .int .i64 0, .int .i64 0] rfl (by simp only [mpn]; rfl) ?_; refine (spec_l07Read.calls ht6.out).mono ?_; rintro _ wt6 ⟨v7, rfl, HQ⟩; refine ⟨_, rfl, ?_⟩; replace HS := HS.call HQ; clear HQ; (try clear F); obtain ⟨B7, d7, rfl, m7⟩ := HS.form 1 rfl; (try simp only [hpn, hpm] at HS); have F := HS.boxes; simp only [bxn] at F) | ((with_reducible refine gate_dst (N := 4) rfl ?_); refine ev_box rfl HS (by first | (go_simp; done) | (go_simp; rfl)) rfl ?_; clear HS; (try clear F); intro g4 w4 HS; (try simp only [hpn, hpm] at HS); have F := HS.boxes; simp only [bxn] at F) | ((with_reducible refine gate_store (p := 4) rfl ?_); refine ev_store rfl 2 0 HS (seg := [.int .i64 t6.1.f0, .string t6.1.f1, .slice B7 t6.1.f2.length d7]) rfl rfl rfl rfl rfl rfl (by kernel_rfl) (by simp [wrt]) (by simp [Value.oneCell']) ?_; clear HS; (try clear F); intro w11 HS; (try simp only [hpn, hpm] at HS); have F := HS.boxes; simp only [bxn] at F) | ((with_reducible refine gate_dst (N := 21) rfl ?_); refine ev_call rfl Tryd.func35 (by kernel_rfl) rfl #[.agg #[.int .i64 t6.1.f0, .string t6.1.f1, .slice B7 t6.1.f2.length d7]] rfl (by simp only [mpn]; rfl) ?_; refine (spec_ItemText.calls ht13.out (HS.rd 1 rfl) m7).mono ?_; rintro _ wt13 ⟨rfl, HQ⟩; refine ⟨_, rfl, ?_⟩; replace HS := HS.call HQ; clear HQ; (try clear F); (try simp only [hpn, hpm] at HS); have F := HS.boxes; simp only [bxn] at F; (try simp only [c15])) | ((with_reducible refine gate_store (p := 2) rfl ?_); refine ev_store rfl 0 0 HS (seg := [.int .i64 0, .string (⟨#[]⟩ : ByteArray), .slice none 0 0]) rfl rfl rfl rfl rfl rfl (by kernel_rfl) (by simp [wrt]) (by simp [Value.oneCell']) ?_; clear HS; (try clear F); intro w25 HS; (try simp only [hpn, hpm] at HS); have F := HS.boxes; simp only [bxn] at F))
  replace HS := HS.nil 65 q65
  exact bodyPost_ret (results_list (rs := [.cell 2 65, .tmp 3]) rfl (by simp) (.cell _ _ _ _ _ rfl (HS.boxAt (i := 0) rfl) Tryd.underlying65 rfl (by kernel_rfl) (.tmp .nil))) rfl ⟨_, rfl, HS.pick [3] (by decide) (by rfl)⟩
 replace H := zpos c16 H
 have c16a := beq_iff_eq.mpr c16
 have c16b := bne_eq_false_iff_eq.mpr c16
 clear c16
 by_cases c17 : t13.2 = true
 case neg =>
  replace H := zneg c17 H
  replace c17 := eq_false_of_ne_true c17
  obtain ⟨rfl, rfl⟩ := zsome2 H
  go_wp2_with (first | ((with_reducible refine gate_dst (N := 15) rfl ?_); refine ev_call rfl Tryd.func93 (by kernel_rfl) rfl #[.string a0, .int .i64 0, .int .i64 0] rfl (by simp only [mpn]; rfl) ?_; refine (spec_l07Read.calls ht6.out).mono ?_; rintro _ wt6 ⟨v7, rfl, HQ⟩; refine ⟨_, rfl, ?_⟩; replace HS := HS.call HQ; clear HQ; (try clear F); obtain ⟨B7, d7, rfl, m7⟩ := HS.form 1 rfl; (try simp only [hpn, hpm] at HS); have F := HS.boxes; simp only [bxn] at F) | ((with_reducible refine gate_dst (N := 4) rfl ?_); refine ev_box rfl HS (by first | (go_simp; done) | (go_simp; rfl)) rfl ?_; clear HS; (try clear F); intro g4 w4 HS; (try simp only [hpn, hpm] at HS); have F := HS.boxes; simp only [bxn] at F) | ((with_reducible refine gate_store (p := 4) rfl ?_); refine ev_store rfl 2 0 HS (seg := [.int .i64 t6.1.f0, .string t6.1.f1, .slice B7 t6.1.f2.length d7]) rfl rfl rfl rfl rfl rfl (by kernel_rfl) (by simp [wrt]) (by simp [Value.oneCell']) ?_; clear HS; (try clear F); intro w11 HS; (try simp only [hpn, hpm] at HS); have F := HS.boxes; simp only [bxn] at F) | ((with_reducible refine gate_dst (N := 21) rfl ?_); refine ev_call rfl Tryd.func35 (by kernel_rfl) rfl #[.agg #[.int .i64 t6.1.f0, .string t6.1.f1, .slice B7 t6.1.f2.length d7]] rfl (by simp only [mpn]; rfl) ?_; refine (spec_ItemText.calls ht13.out (HS.rd 1 rfl) m7).mono ?_; rintro _ wt13 ⟨rfl, HQ⟩; refine ⟨_, rfl, ?_⟩; replace HS := HS.call HQ; clear HQ; (try clear F); (try simp only [hpn, hpm] at HS); have F := HS.boxes; simp only [bxn] at F; (try simp only [c15]); (try simp only [c17])) | ((with_reducible refine gate_store (p := 2) rfl ?_); refine ev_store rfl 0 0 HS (seg := [.int .i64 0, .string (⟨#[]⟩ : ByteArray), .slice none 0 0]) rfl rfl rfl rfl rfl rfl (by kernel_rfl) (by simp [wrt]) (by simp [Value.oneCell']) ?_; clear HS; (try clear F); intro w23 HS; (try simp only [hpn, hpm] at HS); have F := HS.boxes; simp only [bxn] at F))
  replace HS := HS.nil 65 q65
  exact bodyPost_ret (results_list (rs := [.cell 2 65, .tmp 3]) rfl (by simp) (.cell _ _ _ _ _ rfl (HS.boxAt (i := 0) rfl) Tryd.underlying65 rfl (by kernel_rfl) (.tmp .nil))) rfl ⟨_, rfl, HS.pick [3] (by decide) (by rfl)⟩
 replace H := zpos c17 H
 go_upto_if 40 with (first | ((with_reducible refine gate_dst (N := 15) rfl ?_); refine ev_call rfl Tryd.func93 (by kernel_rfl) rfl #[.string a0, .int .i64 0, .int .i64 0] rfl (by simp only [mpn]; rfl) ?_; refine (spec_l07Read.calls ht6.out).mono ?_; rintro _ wt6 ⟨v7, rfl, HQ⟩; refine ⟨_, rfl, ?_⟩; replace HS := HS.call HQ; clear HQ; (try clear F); obtain ⟨B7, d7, rfl, m7⟩ := HS.form 1 rfl; (try simp only [hpn, hpm] at HS); have F := HS.boxes; simp only [bxn] at F) | ((with_reducible refine gate_dst (N := 4) rfl ?_); refine ev_box rfl HS (by first | (go_simp; done) | (go_simp; rfl)) rfl ?_; clear HS; (try clear F); intro g4 w4 HS; (try simp only [hpn, hpm] at HS); have F := HS.boxes; simp only [bxn] at F) | ((with_reducible refine gate_store (p := 4) rfl ?_); refine ev_store rfl 2 0 HS (seg := [.int .i64 t6.1.f0, .string t6.1.f1, .slice B7 t6.1.f2.length d7]) rfl rfl rfl rfl rfl rfl (by kernel_rfl) (by simp [wrt]) (by simp [Value.oneCell']) ?_; clear HS; (try clear F); intro w11 HS; (try simp only [hpn, hpm] at HS); have F := HS.boxes; simp only [bxn] at F) | ((with_reducible refine gate_dst (N := 21) rfl ?_); refine ev_call rfl Tryd.func35 (by kernel_rfl) rfl #[.agg #[.int .i64 t6.1.f0, .string t6.1.f1, .slice B7 t6.1.f2.length d7]] rfl (by simp only [mpn]; rfl) ?_; refine (spec_ItemText.calls ht13.out (HS.rd 1 rfl) m7).mono ?_; rintro _ wt13 ⟨rfl, HQ⟩; refine ⟨_, rfl, ?_⟩; replace HS := HS.call HQ; clear HQ; (try clear F); (try simp only [hpn, hpm] at HS); have F := HS.boxes; simp only [bxn] at F; (try simp only [c15]); (try simp only [c17])))
 by_cases c18 : t13.1.toList = a0.toList
 case pos =>
  replace H := zpos c18 H
  have c18a := beq_iff_eq.mpr c18
  have c18b := bne_eq_false_iff_eq.mpr c18
  clear c18
  (try simp only [c18a, c18b, dcn])
  obtain ⟨rfl, rfl⟩ := zsome2 H
  go_wp2_with (first | ((with_reducible refine gate_store (p := 2) rfl ?_); refine ev_store rfl 0 0 HS (seg := [.int .i64 t6.1.f0, .string t6.1.f1, .slice B7 t6.1.f2.length d7]) rfl rfl rfl rfl rfl rfl (by kernel_rfl) (by simp [wrt]) (by simp [Value.oneCell']) ?_; clear HS; (try clear F); intro w19 HS; (try simp only [hpn, hpm] at HS); have F := HS.boxes; simp only [bxn] at F))
  exact bodyPost_ret (results_list (rs := [.cell 2 65, .tmp 3]) rfl (by simp) (.cell _ _ _ _ _ rfl (HS.boxAt (i := 0) rfl) Tryd.underlying65 rfl (by kernel_rfl) (.tmp .nil))) rfl ⟨_, rfl, HS.pick [1] (by decide) (by rfl)⟩
 replace H := zneg c18 H
 have c18a := beq_eq_false_iff_ne.mpr c18
 have c18b := bne_iff_ne.mpr c18
 clear c18
 (try simp only [c18a, c18b, dcn])
 obtain ⟨rfl, rfl⟩ := zsome2 H
 go_wp2_with (first | ((with_reducible refine gate_store (p := 2) rfl ?_); refine ev_store rfl 0 0 HS (seg := [.int .i64 0, .string (⟨#[]⟩ : ByteArray), .slice none 0 0]) rfl rfl rfl rfl rfl rfl (by kernel_rfl) (by simp [wrt]) (by simp [Value.oneCell']) ?_; clear HS; (try clear F); intro w21 HS; (try simp only [hpn, hpm] at HS); have F := HS.boxes; simp only [bxn] at F))
 replace HS := HS.nil 65 q65
 exact bodyPost_ret (results_list (rs := [.cell 2 65, .tmp 3]) rfl (by simp) (.cell _ _ _ _ _ rfl (HS.boxAt (i := 0) rfl) Tryd.underlying65 rfl (by kernel_rfl) (.tmp .nil))) rfl ⟨_, rfl, HS.pick [3] (by decide) (by rfl)⟩
/-! ### spec_l09Kids: function 48 -/
def spec_l09Kids.f (a0 : S65) (a1 : Int) : Option (Unit × Bool) := (if a0.f0 = 48 then (some ((), ((a0.f2.length : Int) == a1))) else (some ((), false)))
def spec_l09Kids.T1 : Bool × List (List Nat × List Nat) := (true, [([], []), ([0], [0]), ([], []), ([2], [2]), ([3], [3]), ([4], [4]), ([5], [5]), ([6, 5], [5, 6]), ([7, 5], [5, 7]), ([5], [5]), ([8, 9, 5], [5, 8, 9]), ([5, 10], [5, 10]), ([1, 5, 0, 1], [1]), ([11, 12, 0, 1, 2, 3, 4, 5, 6, 7, 8, 9, 10, 11, 12], [11])])
theorem spec_l09Kids.tT1 : rtab .any (opsOf Tryd.f48 1) = spec_l09Kids.T1 := by kernel_rfl
set_option maxHeartbeats 16000000 in
theorem spec_l09Kids.calls {a0 : S65} {a1 : Int} {Ap0 : Option Addr} {np0 cp0 : Nat} {r1 : Unit} {r2 : Bool} {w : World} (h : spec_l09Kids.f a0 a1 = some (r1, r2)) (gp0 : k65.C w Ap0 np0 a0.f2) (lp0 : np0 ≤ cp0) :
    Calls Tryd.prog 48 #[.agg #[.int .i64 a0.f0, .string a0.f1, .slice Ap0 np0 cp0], .int .i64 a1] w (fun e w' => e = .returned (.tuple #[.slice Ap0 np0 cp0, .bool r2]) ∧ Hp noFP w w' []) := by
 obtain rfl := C_len gp0
 have HS := Hp.start w
 have H := Aside0.mk h
 clear h
 unfold spec_l09Kids.f at H
 go_enter Tryd.func48, Tryd.ntmps48
 go_wp2_with (first | ((with_reducible refine gate_dst (N := 2) rfl ?_); refine ev_box rfl HS (by first | (go_simp; done) | (go_simp; rfl)) rfl ?_; clear HS; (try clear F); intro g2 w2 HS; (try simp only [hpn, hpm] at HS); have F := HS.boxes; simp only [bxn] at F))
 by_cases c105001 : a0.f0 = 48
 case neg =>
  replace H := zneg c105001 H
  have c105001a := beq_eq_false_iff_ne.mpr c105001
  have c105001b := bne_iff_ne.mpr c105001
  clear c105001
  refine dr_start [] HS #[false, false, false, false, false, false, false, false, false, false, false, false, false, false] (by kernel_rfl) rfl rfl spec_l09Kids.tT1 (fun w6 HT HS HH => ?_)
  (try clear F)
  refine drq_of [(0, some 6), (1, some 7), (2, some 8), (3, some 9), (4, some 10), (5, some 11), (6, some 12), (7, some 13), (8, some 14), (9, some 15), (10, some 16), (11, some 17), (12, some 4), (13, some 5)] ?_
  repeat (first | (refine drq_pure HT (v := ?_) (a' := ?_) rfl rfl (by kernel_rfl) (fun _ _ _ h => h) (.inl ⟨by rfl, ?_⟩) ?_ ?_; rotate_left; (intro w'; go_simp; with_reducible rfl); rotate_left; (simp only [Act.put, ptn]; rfl)) | (refine drq_pure HT (v := undef) (a' := ?_) rfl rfl (by kernel_rfl) (fun _ _ _ h => h) (.inr ⟨by rfl, rfl⟩) ?_ ?_; rotate_left; (simp only [Act.put, ptn]; rfl)) | (refine drq_take HT HH (v := ?_) (a' := ?_) rfl rfl (by kernel_rfl) (fun _ _ _ h => h) (.inl ⟨by rfl, ?_⟩) ?_ ?_; rotate_left; (rintro w' ⟨rs', HS'⟩; have F := HS'.boxes; simp only [bxn, List.cons_append, List.nil_append] at F; go_simp; with_reducible rfl); rotate_left; (simp only [Act.put, ptn]; rfl)))
  refine drq_end ?_
  refine done_ (done_of HT.out (by kernel_rfl)) ?_
  (try clear F)
  have F := HS.boxes; simp only [bxn] at F
  obtain ⟨rfl, rfl⟩ := zsome2 H
  go_wp2
  exact bodyPost_ret (results_list (rs := [.tmp 4, .tmp 5]) rfl (by simp) (.tmp (.tmp .nil))) rfl ⟨rfl, HS.pick [] (by decide) (by rfl)⟩
 replace H := zpos c105001 H
 have c105001a := beq_iff_eq.mpr c105001
 have c105001b := bne_eq_false_iff_eq.mpr c105001
 clear c105001
 refine dr_start [] HS #[false, false, false, false, false, false, false, false, false, false, false, false, false, false] (by kernel_rfl) rfl rfl spec_l09Kids.tT1 (fun w4 HT HS HH => ?_)
 (try clear F)
 refine drq_of [(0, some 6), (1, some 7), (2, some 8), (3, some 9), (4, some 10), (5, some 11), (6, some 12), (7, some 13), (8, some 14), (9, some 15), (10, some 16), (11, some 17), (12, some 4), (13, some 5)] ?_
 repeat (first | (refine drq_pure HT (v := ?_) (a' := ?_) rfl rfl (by kernel_rfl) (fun _ _ _ h => h) (.inl ⟨by rfl, ?_⟩) ?_ ?_; rotate_left; (intro w'; go_simp; with_reducible rfl); rotate_left; (simp only [Act.put, ptn]; rfl)) | (refine drq_take HT HH (v := ?_) (a' := ?_) rfl rfl (by kernel_rfl) (fun _ _ _ h => h) (.inl ⟨by rfl, ?_⟩) ?_ ?_; rotate_left; (rintro w' ⟨rs', HS'⟩; have F := HS'.boxes; simp only [bxn, List.cons_append, List.nil_append] at F; go_simp; with_reducible rfl); rotate_left; (simp only [Act.put, ptn]; rfl)))
 refine drq_end ?_
 refine done_ (done_of HT.out (by kernel_rfl)) ?_
 (try clear F)
 have F := HS.boxes; simp only [bxn] at F
 obtain ⟨rfl, rfl⟩ := zsome2 H
 go_wp2
 exact bodyPost_ret (results_list (rs := [.tmp 4, .tmp 5]) rfl (by simp) (.tmp (.tmp .nil))) rfl ⟨rfl, HS.pick [] (by decide) (by rfl)⟩
/-! ### spec_IntIn: function 49 -/
def spec_IntIn.l0 : Nat → Int → Int → S65 → Option (Int × Bool)
  | 0, _, _, _ => none
  | k + 1, x14, x15, a0 => (if x15 < (a0.f1.size : Int) then (if 0 ≤ x15 then (if x15 < (a0.f1.size : Int) then (spec_IntIn.l0 k (wrap64 ((wrap64 (256 * x14)) + (wrap64 (bt a0.f1 x15)))) (wrap64 (x15 + 1)) a0) else none) else none) else (if 1000000000 < x14 then (some (0, false)) else (some (x14, true))))
def spec_IntIn.f (k : Nat) (a0 : S65) : Option (Int × Bool) := (if a0.f0 = 2 then ((spec_ItemOk.f k a0).bind fun t4 => (if t4 = true then (spec_IntIn.l0 k 0 0 a0) else (some (0, false)))) else (some (0, false)))
set_option maxHeartbeats 16000000 in
theorem spec_IntIn.calls {k : Nat} {a0 : S65} {Ap0 : Option Addr} {np0 cp0 : Nat} {r1 : Int} {r2 : Bool} {w : World} (h : spec_IntIn.f k a0 = some (r1, r2)) (gp0 : k65.C w Ap0 np0 a0.f2) (lp0 : np0 ≤ cp0) :
    Calls Tryd.prog 49 #[.agg #[.int .i64 a0.f0, .string a0.f1, .slice Ap0 np0 cp0]] w (fun e w' => e = .returned (.tuple #[.int .i64 r1, .bool r2]) ∧ Hp noFP w w' []) := by
 obtain rfl := C_len gp0
 have HS := Hp.start w
 have H := Aside0.mk h
 clear h
 unfold spec_IntIn.f at H
 go_enter Tryd.func49, Tryd.ntmps49
 by_cases c3 : a0.f0 = 2
 case neg =>
  replace H := zneg c3 H
  have c3a := beq_eq_false_iff_ne.mpr c3
  have c3b := bne_iff_ne.mpr c3
  clear c3
  obtain ⟨rfl, rfl⟩ := zsome2 H
  go_wp2_with (first | ((with_reducible refine gate_dst (N := 1) rfl ?_); refine ev_box rfl HS (by first | (go_simp; done) | (go_simp; rfl)) rfl ?_; clear HS; (try clear F); intro g1 w1 HS; (try simp only [hpn, hpm] at HS); have F := HS.boxes; simp only [bxn] at F))
  exact bodyPost_ret (results_list (rs := [.tmp 2, .tmp 3]) rfl (by simp) (.tmp (.tmp .nil))) rfl ⟨rfl, HS.pick [] (by decide) (by rfl)⟩
 replace H := zpos c3 H
 have c3a := beq_iff_eq.mpr c3
 have c3b := bne_eq_false_iff_eq.mpr c3
 clear c3
 replace H := zbind H; obtain ⟨t4, ht4, H⟩ := H
 go_upto_if 13 with (first | ((with_reducible refine gate_dst (N := 1) rfl ?_); refine ev_box rfl HS (by first | (go_simp; done) | (go_simp; rfl)) rfl ?_; clear HS; (try clear F); intro g1 w1 HS; (try simp only [hpn, hpm] at HS); have F := HS.boxes; simp only [bxn] at F) | ((with_reducible refine gate_dst (N := 11) rfl ?_); refine gate_guard (by rfl) ?_; refine ev_call rfl Tryd.func73 (by kernel_rfl) rfl #[.agg #[.int .i64 a0.f0, .string a0.f1, .slice Ap0 a0.f2.length cp0]] rfl (by simp only [mpn]; rfl) ?_; refine (spec_ItemOk.calls ht4.out (HS.ro gp0) lp0).mono ?_; rintro _ wt4 ⟨rfl, HQ⟩; refine ⟨_, rfl, ?_⟩; replace HS := HS.call HQ; clear HQ; (try clear F); (try simp only [hpn, hpm] at HS); have F := HS.boxes; simp only [bxn] at F))
 by_cases c6 : t4 = true
 case neg =>
  replace H := zneg c6 H
  replace c6 := eq_false_of_ne_true c6
  subst c6
  (try simp only [dcn, if_true, Bool.false_eq_true, if_false])
  obtain ⟨rfl, rfl⟩ := zsome2 H
  go_wp2
  exact bodyPost_ret (results_list (rs := [.tmp 2, .tmp 3]) rfl (by simp) (.tmp (.tmp .nil))) rfl ⟨rfl, HS.pick [] (by decide) (by rfl)⟩
 replace H := zpos c6 H
 subst c6
 (try simp only [dcn, if_true, Bool.false_eq_true, if_false])
 go_wp2
 go_loopg [4, 5] k (fun kq v_4 v_5 w' => ∃ (x14 : Int) (x15 : Int), v_4 = .int .i64 x14 ∧ v_5 = .int .i64 x15 ∧ Aside0 (spec_IntIn.l0 kq x14 x15 a0 = some (r1, r2)) ∧ Aside0 (kq ≤ k) ∧ Hp noFP w w' [.box g1 [.int .i64 a0.f0, .string a0.f1, .slice Ap0 a0.f2.length cp0] 65])
 case atStart => exact ⟨_, _, rfl, rfl, H, ⟨Nat.le_refl _⟩, HS⟩
 case round =>
  clear HS H; (try clear F)
  obtain ⟨x14, x15, rfl, rfl, H, HKk13, HS⟩ := hrel
  have F := HS.boxes; simp only [bxn] at F
  cases gk with
  | zero => exact absurd H.out (by simp [spec_IntIn.l0])
  | succ k13 =>
   simp only [spec_IntIn.l0] at H
   by_cases c17 : x15 < (a0.f1.size : Int)
   case pos =>
    replace H := zpos c17 H
    replace c17 := eq_true c17
    by_cases c18 : 0 ≤ x15
    case neg => exact zno c18 H
    replace H := zpos c18 H
    replace c18 := eq_true c18
    by_cases c19 : x15 < (a0.f1.size : Int)
    case neg => exact zno c19 H
    replace H := zpos c19 H
    replace c19 := eq_true c19
    have hx20 := bt_at a0.f1 x15
    go_wp2
    go_roundg k13
    case measure => have := HKk13.out; omega
    case rel => exact ⟨_, _, rfl, rfl, H, ⟨by have := HKk13.out; omega⟩, HS.pick [0] (by decide) (by rfl)⟩
   replace H := zneg c17 H
   replace c17 := eq_false c17
   by_cases c21 : 1000000000 < x14
   case pos =>
    replace H := zpos c21 H
    replace c21 := eq_true c21
    obtain ⟨rfl, rfl⟩ := zsome2 H
    go_wp2
    exact bodyPost_ret (results_list (rs := [.tmp 2, .tmp 3]) rfl (by simp) (.tmp (.tmp .nil))) rfl ⟨rfl, HS.pick [] (by decide) (by rfl)⟩
   replace H := zneg c21 H
   replace c21 := eq_false c21
   obtain ⟨rfl, rfl⟩ := zsome2 H
   go_wp2
   exact bodyPost_ret (results_list (rs := [.tmp 2, .tmp 3]) rfl (by simp) (.tmp (.tmp .nil))) rfl ⟨rfl, HS.pick [] (by decide) (by rfl)⟩
/-! ### spec_l09IntsIn: function 50 -/
def spec_l09IntsIn.l0 : Nat → (List Int) → Int → S65 → Option ((List Int))
  | 0, _, _, _ => none
  | k + 1, l18, x20, a0 => (if x20 < (a0.f2.length : Int) then (if 0 ≤ x20 then (if x20 < (a0.f2.length : Int) then ((spec_IntIn.f k (rd_T65 a0.f2 x20)).bind fun t26 => (if l18.length + 1 ≤ 17592186044416 then (lets (l18 ++ ([t26.1] : List Int)) fun y31 => (spec_l09IntsIn.l0 k y31 (wrap64 (x20 + 1)) a0)) else none)) else none) else none) else (some l18))
def spec_l09IntsIn.f (k : Nat) (a0 : S65) : Option ((List Int)) := (spec_l09IntsIn.l0 k ([] : List Int) 0 a0)
set_option maxHeartbeats 16000000 in
theorem spec_l09IntsIn.calls {k : Nat} {a0 : S65} {Ap0 : Option Addr} {np0 cp0 : Nat} {r : (List Int)} {w : World} (h : spec_l09IntsIn.f k a0 = some r) (gp0 : k65.C w Ap0 np0 a0.f2) (lp0 : np0 ≤ cp0) :
    Calls Tryd.prog 50 #[.agg #[.int .i64 a0.f0, .string a0.f1, .slice Ap0 np0 cp0]] w (fun e w' => ∃ v0_ : Value, e = .returned (v0_) ∧ Hp noFP w w' [.own (Zd.slice 3 (Zd.int .i64)) r [v0_]]) := by
 obtain rfl := C_len gp0
 have HS := Hp.start w
 have H := Aside0.mk h
 clear h
 unfold spec_l09IntsIn.f at H
 go_enter Tryd.func50, Tryd.ntmps50
 go_wp2_with (first | ((with_reducible refine gate_dst (N := 1) rfl ?_); refine ev_box rfl HS (by first | (go_simp; done) | (go_simp; rfl)) rfl ?_; clear HS; (try clear F); intro g1 w1 HS; (try simp only [hpn, hpm] at HS); have F := HS.boxes; simp only [bxn] at F) | ((with_reducible refine gate_dst (N := 7) rfl ?_); refine ev_lit rfl (Zd.int .i64) [] ([] : List Int) [] HS (by first | (go_simp; done) | (go_simp; rfl)) rfl rfl (Nat.le_of_ble_eq_true rfl) MadeL.nil ?_; clear HS; (try clear F); intro v3 w3 HS; obtain ⟨B3, d3, rfl, m3⟩ := HS.formn 0 1 rfl rfl; (try simp only [hpn, hpm] at HS); have F := HS.boxes; simp only [bxn] at F))
 go_loopg [3, 4] k (fun kq v_3 v_4 w' => ∃ (l18 : List Int) (v19 : Value) (x20 : Int), v_3 = v19 ∧ v_4 = .int .i64 x20 ∧ Aside0 (spec_l09IntsIn.l0 kq l18 x20 a0 = some r) ∧ Aside0 (kq ≤ k) ∧ Hp noFP w w' [.box g1 [.int .i64 a0.f0, .string a0.f1, .slice Ap0 a0.f2.length cp0] 65, .own (Zd.slice 3 (Zd.int .i64)) l18 [v19]])
 case atStart => exact ⟨_, _, _, rfl, rfl, H, ⟨Nat.le_refl _⟩, HS⟩
 case round =>
  clear HS H; (try clear F)
  obtain ⟨l18, v19, x20, rfl, rfl, H, HKk17, HS⟩ := hrel
  obtain ⟨B19, d19, rfl, m19⟩ := HS.form 1 rfl
  have F := HS.boxes; simp only [bxn] at F
  cases gk with
  | zero => exact absurd H.out (by simp [spec_l09IntsIn.l0])
  | succ k17 =>
   simp only [spec_l09IntsIn.l0] at H
   by_cases c22 : x20 < (a0.f2.length : Int)
   case neg =>
    replace H := zneg c22 H
    replace c22 := eq_false c22
    obtain rfl := zsome H
    go_wp2
    exact bodyPost_ret (results_single rfl (.tmp .nil)) rfl ⟨_, rfl, HS.pick [1] (by decide) (by rfl)⟩
   replace H := zpos c22 H
   replace c22 := eq_true c22
   by_cases c23 : 0 ≤ x20
   case neg => exact zno c23 H
   replace H := zpos c23 H
   replace c23 := eq_true c23
   by_cases c24 : x20 < (a0.f2.length : Int)
   case neg => exact zno c24 H
   replace H := zpos c24 H
   replace c24 := eq_true c24
   obtain ⟨ad25, B25_2, d25_2, rfl, e25_0, e25_1, e25_2, m25_2, y25_2⟩ := at_T65 gp0 x20 (of_eq_true c23) (of_eq_true c24)
   have e25_0_25 := (HS.keepc e25_0)
   have e25_1_25 := (HS.keepc e25_1)
   have e25_2_25 := (HS.keepc e25_2)
   replace H := zbind H; obtain ⟨t26, ht26, H⟩ := H
   by_cases c30 : l18.length + 1 ≤ 17592186044416
   case neg => exact zno c30 H
   replace H := zpos c30 H
   replace c30 := eq_true c30
   replace H := zlets H; obtain ⟨y31, e_y31, H⟩ := H
   go_wp2_with (first | ((with_reducible refine gate_dst (N := 21) rfl ?_); refine ev_call rfl Tryd.func49 (by kernel_rfl) rfl #[.agg #[.int .i64 ((rd_T65 a0.f2 x20).f0), .string ((rd_T65 a0.f2 x20).f1), .slice B25_2 (rd_T65 a0.f2 x20).f2.length d25_2]] rfl (by simp only [mpn]; rfl) ?_; refine (spec_IntIn.calls ht26.out (HS.ro y25_2) m25_2).mono ?_; rintro _ wt26 ⟨rfl, HQ⟩; refine ⟨_, rfl, ?_⟩; replace HS := HS.call HQ; clear HQ; (try clear F); (try simp only [hpn, hpm] at HS); have F := HS.boxes; simp only [bxn] at F) | ((with_reducible refine gate_dst (N := 26) rfl ?_); refine ev_lit rfl (Zd.int .i64) [] ([t26.1] : List Int) ([.int .i64 t26.1] ++ []) HS (by first | (go_simp; done) | (go_simp; rfl)) rfl rfl (Nat.le_of_ble_eq_true rfl) (MadeL.cons (js1 := []) (c := [.int .i64 t26.1]) rfl (made_flat (fun _ => rfl)) MadeL.nil (by decide)) ?_; clear HS; (try clear F); intro v28 w28 HS; obtain ⟨B28, d28, rfl, m28⟩ := HS.formn 1 2 rfl rfl; (try simp only [hpn, hpm] at HS); have F := HS.boxes; simp only [bxn] at F) | ((with_reducible refine gate_dst (N := 27) rfl ?_); refine ev_append rfl (Zd.int .i64) 1 2 HS rfl rfl (by decide) rfl rfl rfl Tryd.underlying22 info3 rfl (by decide) (by decide) (by have := of_eq_true c30; first | omega | (simp only [List.length_cons, List.length_nil, List.length_append, Nat.zero_add] at this ⊢; omega)) ?_; clear HS; (try clear F); intro v31 w31 HS; rw [← e_y31.out] at HS; obtain ⟨B31, d31, rfl, m31⟩ := HS.form 3 rfl; (try simp only [hpn, hpm] at HS); have F := HS.boxes; simp only [bxn] at F))
   go_roundg k17
   case measure => have := HKk17.out; omega
   case rel => exact ⟨_, _, _, rfl, rfl, H, ⟨by have := HKk17.out; omega⟩, HS.pick [0, 3] (by decide) (by rfl)⟩
/-! ### spec_l09TextsIn: function 60 -/
def spec_l09TextsIn.l0 : Nat → (List ByteArray) → Int → S65 → Option ((List ByteArray))
  | 0, _, _, _ => none
  | k + 1, l13, x15, a0 => (if x15 < (a0.f2.length : Int) then (if 0 ≤ x15 then (if x15 < (a0.f2.length : Int) then (if l13.length + 1 ≤ 8796093022208 then (lets (l13 ++ ([(rd_T65 a0.f2 x15).f1] : List ByteArray)) fun y24 => (spec_l09TextsIn.l0 k y24 (wrap64 (x15 + 1)) a0)) else none) else none) else none) else (some l13))
def spec_l09TextsIn.f (k : Nat) (a0 : S65) : Option ((List ByteArray)) := (spec_l09TextsIn.l0 k ([] : List ByteArray) 0 a0)
set_option maxHeartbeats 16000000 in
theorem spec_l09TextsIn.calls {k : Nat} {a0 : S65} {Ap0 : Option Addr} {np0 cp0 : Nat} {r : (List ByteArray)} {w : World} (h : spec_l09TextsIn.f k a0 = some r) (gp0 : k65.C w Ap0 np0 a0.f2) (lp0 : np0 ≤ cp0) :
    Calls Tryd.prog 60 #[.agg #[.int .i64 a0.f0, .string a0.f1, .slice Ap0 np0 cp0]] w (fun e w' => ∃ v0_ : Value, e = .returned (v0_) ∧ Hp noFP w w' [.own (Zd.slice 9 Zd.string) r [v0_]]) := by
 obtain rfl := C_len gp0
 have HS := Hp.start w
 have H := Aside0.mk h
 clear h
 unfold spec_l09TextsIn.f at H
 go_enter Tryd.func60, Tryd.ntmps60
 go_wp2_with (first | ((with_reducible refine gate_dst (N := 1) rfl ?_); refine ev_box rfl HS (by first | (go_simp; done) | (go_simp; rfl)) rfl ?_; clear HS; (try clear F); intro g1 w1 HS; (try simp only [hpn, hpm] at HS); have F := HS.boxes; simp only [bxn] at F) | ((with_reducible refine gate_dst (N := 5) rfl ?_); refine ev_lit rfl Zd.string [] ([] : List ByteArray) [] HS (by first | (go_simp; done) | (go_simp; rfl)) rfl rfl (Nat.le_of_ble_eq_true rfl) MadeL.nil ?_; clear HS; (try clear F); intro v3 w3 HS; obtain ⟨B3, d3, rfl, m3⟩ := HS.formn 0 1 rfl rfl; (try simp only [hpn, hpm] at HS); have F := HS.boxes; simp only [bxn] at F))
 go_loopg [3, 4] k (fun kq v_3 v_4 w' => ∃ (l13 : List ByteArray) (v14 : Value) (x15 : Int), v_3 = v14 ∧ v_4 = .int .i64 x15 ∧ Aside0 (spec_l09TextsIn.l0 kq l13 x15 a0 = some r) ∧ Aside0 (kq ≤ k) ∧ Hp noFP w w' [.box g1 [.int .i64 a0.f0, .string a0.f1, .slice Ap0 a0.f2.length cp0] 65, .own (Zd.slice 9 Zd.string) l13 [v14]])
 case atStart => exact ⟨_, _, _, rfl, rfl, H, ⟨Nat.le_refl _⟩, HS⟩
 case round =>
  clear HS H; (try clear F)
  obtain ⟨l13, v14, x15, rfl, rfl, H, HKk12, HS⟩ := hrel
  obtain ⟨B14, d14, rfl, m14⟩ := HS.form 1 rfl
  have F := HS.boxes; simp only [bxn] at F
  cases gk with
  | zero => exact absurd H.out (by simp [spec_l09TextsIn.l0])
  | succ k12 =>
   simp only [spec_l09TextsIn.l0] at H
   by_cases c17 : x15 < (a0.f2.length : Int)
   case neg =>
    replace H := zneg c17 H
    replace c17 := eq_false c17
    obtain rfl := zsome H
    go_wp2
    exact bodyPost_ret (results_single rfl (.tmp .nil)) rfl ⟨_, rfl, HS.pick [1] (by decide) (by rfl)⟩
   replace H := zpos c17 H
   replace c17 := eq_true c17
   by_cases c18 : 0 ≤ x15
   case neg => exact zno c18 H
   replace H := zpos c18 H
   replace c18 := eq_true c18
   by_cases c19 : x15 < (a0.f2.length : Int)
   case neg => exact zno c19 H
   replace H := zpos c19 H
   replace c19 := eq_true c19
   obtain ⟨ad20, B20_2, d20_2, rfl, e20_0, e20_1, e20_2, m20_2, y20_2⟩ := at_T65 gp0 x15 (of_eq_true c18) (of_eq_true c19)
   have e20_0_20 := (HS.keepc e20_0)
   have e20_1_20 := (HS.keepc e20_1)
   have e20_2_20 := (HS.keepc e20_2)
   by_cases c23 : l13.length + 1 ≤ 8796093022208
   case neg => exact zno c23 H
   replace H := zpos c23 H
   replace c23 := eq_true c23
   replace H := zlets H; obtain ⟨y24, e_y24, H⟩ := H
   go_wp2_with (first | ((with_reducible refine gate_dst (N := 20) rfl ?_); refine ev_lit rfl Zd.string [] ([(rd_T65 a0.f2 x15).f1] : List ByteArray) ([.string ((rd_T65 a0.f2 x15).f1)] ++ []) HS (by first | (go_simp; done) | (go_simp; rfl)) rfl rfl (Nat.le_of_ble_eq_true rfl) (MadeL.cons (js1 := []) (c := [.string ((rd_T65 a0.f2 x15).f1)]) rfl (made_flat (fun _ => rfl)) MadeL.nil (by decide)) ?_; clear HS; (try clear F); intro v21 w21 HS; obtain ⟨B21, d21, rfl, m21⟩ := HS.formn 1 2 rfl rfl; (try simp only [hpn, hpm] at HS); have F := HS.boxes; simp only [bxn] at F) | ((with_reducible refine gate_dst (N := 21) rfl ?_); refine ev_append rfl Zd.string 1 2 HS rfl rfl (by decide) rfl rfl rfl Tryd.underlying23 info9 rfl (by decide) (by decide) (by have := of_eq_true c23; first | omega | (simp only [List.length_cons, List.length_nil, List.length_append, Nat.zero_add] at this ⊢; omega)) ?_; clear HS; (try clear F); intro v24 w24 HS; rw [← e_y24.out] at HS; obtain ⟨B24, d24, rfl, m24⟩ := HS.form 3 rfl; (try simp only [hpn, hpm] at HS); have F := HS.boxes; simp only [bxn] at F))
   go_roundg k12
   case measure => have := HKk12.out; omega
   case rel => exact ⟨_, _, _, rfl, rfl, H, ⟨by have := HKk12.out; omega⟩, HS.pick [0, 3] (by decide) (by rfl)⟩
/-! ### spec_l09Num: function 68 -/
def spec_l09Num.f (a0 : Int) : Option (Bool) := ((spec_l01In.f a0 0 9999).bind fun t1 => (some t1))
set_option maxHeartbeats 16000000 in
theorem spec_l09Num.calls {a0 : Int} {r : Bool} {w : World} (h : spec_l09Num.f a0 = some r) :
    Calls Tryd.prog 68 #[.int .i64 a0] w (fun e w' => e = .returned (.bool r) ∧ Hp noFP w w' []) := by
 have HS := Hp.start w
 have H := Aside0.mk h
 clear h
 unfold spec_l09Num.f at H
 go_enter Tryd.func68, Tryd.ntmps68
 replace H := zbind H; obtain ⟨t1, ht1, H⟩ := H
 obtain rfl := zsome H
 go_wp2_with (first | ((with_reducible refine gate_dst (N := 4) rfl ?_); refine ev_call rfl Tryd.func70 (by kernel_rfl) rfl #[.int .i64 a0, .int .i64 0, .int .i64 9999] rfl (by simp only [mpn]; rfl) ?_; refine (spec_l01In.calls ht1.out).mono ?_; rintro _ wt1 ⟨rfl, HQ⟩; refine ⟨_, rfl, ?_⟩; replace HS := HS.call HQ; clear HQ; (try clear F); (try simp only [hpn, hpm] at HS)))
 go_ret
 exact ⟨rfl, HS.pick [] (by decide) (by rfl)⟩
end Go.Proofs.YtoaoncnbimcdgaaDoor.F
