/- Functions of the program and of the law, and that their calls do what is written here. -/
import Derived.Test.YtoaoncnbimcdgaaZgFnExactAskNowd
import Derived.Test.YtoaoncnbimcdgaaZgFnExactAskNowe
namespace Go.Proofs.Ytoaoncnbimcdgaa.F
open Go.RowKit Go.Proofs.YtoaoncnbimcdgaaW.PrintWords Go.Proofs.YtoaoncnbimcdgaaW.PrintLast Go.Proofs.YtoaoncnbimcdgaaW.PrintMore Go.Proofs.Ytoaoncnbimcdgaa.Z
attribute [local go_sem] max2_int min2_int max_two min_two max_three min_three max_four min_four
set_option linter.unusedVariables false
set_option linter.unusedSimpArgs false
set_option maxRecDepth 100000
/-! ### spec_l14Texts: function 142 -/
def spec_l14Texts.l0 : Nat → (List S100) → Int → (List ByteArray) → Option (S100)
  | 0, _, _, _ => none
  | k + 1, l19, x21, a0 => (if x21 < (a0.length : Int) then (if 0 ≤ x21 then (if x21 < (a0.length : Int) then ((spec_l09Bytes.f (rdOf ByteArray.empty a0 x21)).bind fun t206001 => (if l19.length + 1 ≤ 2932031007402 then (lets (l19 ++ ([t206001] : List S100)) fun y208999 => (spec_l14Texts.l0 k y208999 (wrap64 (x21 + 1)) a0)) else none)) else none) else none) else (some (⟨48, (⟨#[]⟩ : ByteArray), l19⟩ : S100)))
def spec_l14Texts.f (k : Nat) (a0 : (List ByteArray)) : Option (S100) := (spec_l14Texts.l0 k [] 0 a0)
def spec_l14Texts.T5 : Bool × List (List Nat × List Nat) := (true, [([], []), ([0], [0]), ([], []), ([], []), ([2, 3], [2, 3]), ([4], [4]), ([5], [5]), ([6], [6]), ([1, 7, 6], [1, 7]), ([0, 1, 2, 3, 4, 5, 6, 7, 8], []), ([9, 8, 8, 0, 1, 2, 3, 4, 5, 6, 7, 8], [8, 9])])
theorem spec_l14Texts.tT5 : rtab .any (opsOf Try.f142 5) = spec_l14Texts.T5 := by kernel_rfl
set_option maxHeartbeats 16000000 in
theorem spec_l14Texts.calls {k : Nat} {a0 : (List ByteArray)} {Ap0 : Option Addr} {np0 cp0 : Nat} {r : S100} {w : World} (h : spec_l14Texts.f k a0 = some r) (gp0 : Kd.string.C w Ap0 np0 a0) (lp0 : np0 ≤ cp0) :
    Calls Try.prog 142 #[.slice Ap0 np0 cp0] w (fun e w' => ∃ v0_ : Value, e = .returned (.agg #[.int .i64 r.f0, .string r.f1, v0_]) ∧ Hp noFP w w' [.own (Zd.slice 100 q100) r.f2 [v0_]]) := by
 obtain rfl := C_len gp0
 have HS := Hp.start w
 have H := Aside0.mk h
 clear h
 unfold spec_l14Texts.f at H
 go_enter Try.func142, Try.ntmps142
 go_wp2_with (first | ((with_reducible refine gate_dst (N := 2) rfl ?_); refine ev_box rfl HS (by first | (go_simp; done) | (go_simp; rfl)) rfl ?_; clear HS; (try clear F); intro g2 w2 HS; (try simp only [hpn, hpm] at HS); have F := HS.boxes; simp only [boxFacts, and_true] at F) | ((with_reducible refine gate_dst (N := 3) rfl ?_); refine ev_box rfl HS (by first | (go_simp; done) | (go_simp; rfl)) rfl ?_; clear HS; (try clear F); intro g3 w3 HS; (try simp only [hpn, hpm] at HS); have F := HS.boxes; simp only [boxFacts, and_true] at F) | ((with_reducible refine gate_store (p := 3) rfl ?_); refine ev_store rfl 1 0 HS (seg := [.int .i64 48, .string (⟨#[]⟩ : ByteArray), .slice none 0 0]) rfl rfl rfl rfl rfl rfl (by kernel_rfl) (by simp [wrt]) (by simp [Value.oneCell']) ?_; clear HS; (try clear F); intro w5 HS; (try simp only [hpn, hpm] at HS); have F := HS.boxes; simp only [boxFacts, and_true] at F))
 replace HS := HS.nil 100 q100
 go_loopg [4] k (fun kq v_4 w' => ∃ (l19 : List S100) (v20 : Value) (x21 : Int), v_4 = .int .i64 x21 ∧ Aside0 (spec_l14Texts.l0 kq l19 x21 a0 = some r) ∧ Aside0 (kq ≤ k) ∧ Hp noFP w w' [.box g2 [.int .i64 0, .string (⟨#[]⟩ : ByteArray), .slice none 0 0] 100, .box g3 [.int .i64 48, .string (⟨#[]⟩ : ByteArray), v20] 100, .own (Zd.slice 100 q100) l19 [v20]])
 case atStart => exact ⟨_, _, _, rfl, H, ⟨Nat.le_refl _⟩, HS⟩
 case round =>
  clear HS H; (try clear F)
  obtain ⟨l19, v20, x21, rfl, H, HKk18, HS⟩ := hrel
  obtain ⟨B20, d20, rfl, m20⟩ := HS.form 2 rfl
  have F := HS.boxes; simp only [boxFacts, and_true] at F
  cases gk with
  | zero => exact absurd H.out (by simp [spec_l14Texts.l0])
  | succ k18 =>
   simp only [spec_l14Texts.l0] at H
   by_cases c23 : x21 < (a0.length : Int)
   · replace H := zpos c23 H
     replace c23 := eq_true c23
     (try go_wp2)
     by_cases c204001 : 0 ≤ x21
     case neg => exact zno c204001 H
     replace H := zpos c204001 H
     replace c204001 := eq_true c204001
     by_cases c204002 : x21 < (a0.length : Int)
     case neg => exact zno c204002 H
     replace H := zpos c204002 H
     replace c204002 := eq_true c204002
     obtain ⟨ad204999, rfl, e204999_0⟩ := Kd.at_string gp0 x21 (of_eq_true c204001) (of_eq_true c204002)
     replace H := zbind H; obtain ⟨t206001, ht206001, H⟩ := H
     by_cases c208001 : l19.length + 1 ≤ 2932031007402
     case neg => exact zno c208001 H
     replace H := zpos c208001 H
     replace c208001 := eq_true c208001
     replace H := zlets H; obtain ⟨y208999, e_y208999, H⟩ := H
     refine dr_start2 [.box g2 [.int .i64 0, .string (⟨#[]⟩ : ByteArray), .slice none 0 0] 100, .box g3 [.int .i64 48, .string (⟨#[]⟩ : ByteArray), .slice B20 l19.length d20] 100, .emp] [10] HS (HS.arr [some 0, some 1, none] (by decide)) #[false, false, false, false, false, false, false, false, false, false, false] (by kernel_rfl) rfl rfl spec_l14Texts.tT5 (fun w25 HT HS HH => ?_)
     (try clear F)
     refine drq_of [(0, some 12), (1, some 13), (2, some 14), (3, some 15), (4, some 16)] ?_
     repeat (first | (refine drq_pure HT (v := ?_) (a' := ?_) rfl rfl (by kernel_rfl) (fun _ _ _ h => h) (.inl ⟨by rfl, ?_⟩) ?_ ?_; rotate_left; (intro w'; go_simp; with_reducible rfl); rotate_left; (simp only [Act.put, List.setIfInBounds_toArray, List.set_cons_zero, List.set_cons_succ, i64_w, i32_w]; rfl)) | (refine drq_take HT HH (v := ?_) (a' := ?_) rfl rfl (by kernel_rfl) (fun _ _ _ h => h) (.inl ⟨by rfl, ?_⟩) ?_ ?_; rotate_left; (rintro w' ⟨rs', HS'⟩; have F := HS'.boxes; simp only [boxFacts, List.cons_append, List.nil_append, and_true] at F; go_simp; with_reducible rfl); rotate_left; (simp only [Act.put, List.setIfInBounds_toArray, List.set_cons_zero, List.set_cons_succ, i64_w, i32_w]; rfl)))
     refine drq_end ?_
     refine dr_take 5 (some 17) HT HH (v := ?_) (a' := ?_) rfl rfl (by kernel_rfl) (fun _ _ _ h => h) (.inl ⟨by rfl, ?_⟩) ?_ ?_
     rotate_left
     · rintro w' ⟨rs', HS'⟩; have e204999_0 := (HS'.keepc e204999_0); go_simp; with_reducible rfl
     rotate_left
     · simp only [Act.put, List.setIfInBounds_toArray, List.set_cons_zero, List.set_cons_succ, i64_w, i32_w]; rfl
     refine dr_one 6 HT rfl (by kernel_rfl) (by decide) (fun K hK => ?_)
     refine goes_ Try.func116 (by kernel_rfl) rfl #[.string (rdOf ByteArray.empty a0 x21)] (by rfl) rfl rfl (by simp only [List.map_toArray, List.map_cons, List.map_nil]; rfl) ?_; refine (spec_l09Bytes.calls ht206001.out).mono ?_; rintro _ wt206001 ⟨v206002, rfl, HQ⟩; refine ⟨_, rfl, ?_⟩; replace HS := HS.call HQ; clear HQ; (try clear F); obtain ⟨B206002, d206002, rfl, m206002⟩ := HS.form 3 rfl
     (try simp only [hpn, hpm] at HS)
     have F := HS.boxes; simp only [boxFacts, and_true] at F
     refine hK.out _ _ ⟨[], HS.arr [some 0, some 1, none] (by decide)⟩ (fun HH => ?_)
     clear hK K
     refine norm_ (a' := ?_) ?_ ?_
     rotate_left
     · show Act.put _ (some 18) _ = _; simp only [Act.put, List.setIfInBounds_toArray, List.set_cons_zero, List.set_cons_succ, i64_w, i32_w]; rfl
     refine dr_one 7 HT rfl (by kernel_rfl) (by decide) (fun K hK => ?_)
     refine if_wp (by rfl) ?_; refine wp_lit q100 [3] ([t206001] : List S100) ([.int .i64 t206001.f0, .string t206001.f1, .slice B206002 t206001.f2.length d206002] ++ []) HS (by first | (go_simp; done) | (go_simp; rfl)) rfl rfl (Nat.le_of_ble_eq_true rfl) (MadeL.cons (js1 := [3]) (c := [.int .i64 t206001.f0, .string t206001.f1, .slice B206002 t206001.f2.length d206002]) rfl (fun S hd hh => q100_pack (x := t206001) hd (hh 3 (.own (Zd.slice 100 q100) t206001.f2 [.slice B206002 t206001.f2.length d206002]) rfl) (by decide)) MadeL.nil (by decide)) ?_; clear HS; (try clear F); intro v207001 w207001 HS; obtain ⟨B207001, d207001, rfl, m207001⟩ := HS.formn 1 4 rfl rfl
     (try simp only [hpn, hpm] at HS)
     have F := HS.boxes; simp only [boxFacts, and_true] at F
     refine hK.out _ _ ⟨[], HS.arr [some 0, some 1, none] (by decide)⟩ (fun HH => ?_)
     clear hK K
     refine norm_ (a' := ?_) ?_ ?_
     rotate_left
     · show Act.put _ (some 19) _ = _; simp only [Act.put, List.setIfInBounds_toArray, List.set_cons_zero, List.set_cons_succ, i64_w, i32_w]; rfl
     refine dr_one 8 HT rfl (by kernel_rfl) (by decide) (fun K hK => ?_)
     refine if_wp (by rfl) ?_; refine wp_append q100 2 4 HS rfl rfl (by decide) rfl rfl rfl Try.underlying98 info100 rfl (by decide) (by decide) (by have := of_eq_true c208001; first | omega | (simp only [List.length_cons, List.length_nil, List.length_append, Nat.zero_add] at this ⊢; omega)) ?_; clear HS; (try clear F); intro v208999 w208999 HS; rw [← e_y208999.out] at HS; obtain ⟨B208999, d208999, rfl, m208999⟩ := HS.form 5 rfl
     (try simp only [hpn, hpm] at HS)
     have F := HS.boxes; simp only [boxFacts, and_true] at F
     refine hK.out _ _ ⟨[], HS.arr [some 0, some 1, none] (by decide)⟩ (fun HH => ?_)
     clear hK K
     refine norm_ (a' := ?_) ?_ ?_
     rotate_left
     · show Act.put _ (some 20) _ = _; simp only [Act.put, List.setIfInBounds_toArray, List.set_cons_zero, List.set_cons_succ, i64_w, i32_w]; rfl
     refine drq_of [(9, some 21)] ?_
     repeat (first | (refine drq_pure HT (v := ?_) (a' := ?_) rfl rfl (by kernel_rfl) (fun _ _ _ h => h) (.inl ⟨by rfl, ?_⟩) ?_ ?_; rotate_left; (intro w'; go_simp; with_reducible rfl); rotate_left; (simp only [Act.put, List.setIfInBounds_toArray, List.set_cons_zero, List.set_cons_succ, i64_w, i32_w]; rfl)))
     refine drq_end ?_
     refine dr_last 10 HT rfl (by kernel_rfl) (by decide) (fun K hK => ?_)
     refine if_wp (by rfl) ?_; refine wp_store 1 2 HS (seg := [.slice B208999 y208999.length d208999]) rfl rfl rfl rfl rfl rfl (by kernel_rfl) (by simp [wrt]) (by simp [Value.oneCell']) ?_; clear HS; (try clear F); intro w210001 HS
     (try simp only [hpn, hpm] at HS)
     have F := HS.boxes; simp only [boxFacts, and_true] at F
     refine hK.out _ _ ?_
     clear hK K
     refine done_ (done_of HT.out (by kernel_rfl)) ?_
     (try clear F)
     have F := HS.boxes; simp only [boxFacts, and_true] at F
     go_wp2
     go_roundg k18
     case measure => have := HKk18.out; omega
     case rel => exact ⟨_, _, _, rfl, H, ⟨by have := HKk18.out; omega⟩, HS.pick [0, 1, 5] (by decide) (by rfl)⟩
   · replace H := zneg c23 H
     replace c23 := eq_false c23
     obtain rfl := zsome H
     go_wp2_with (first | ((with_reducible refine gate_store (p := 2) rfl ?_); refine ev_store rfl 0 0 HS (seg := [.int .i64 48, .string (⟨#[]⟩ : ByteArray), .slice B20 l19.length d20]) rfl rfl rfl rfl rfl rfl (by kernel_rfl) (by simp [wrt]) (by simp [Value.oneCell']) ?_; clear HS; (try clear F); intro w27 HS; (try simp only [hpn, hpm] at HS); have F := HS.boxes; simp only [boxFacts, and_true] at F))
     exact bodyPost_ret (results_single rfl (.cell _ _ _ _ _ rfl (HS.boxAt (i := 0) rfl) Try.underlying100 rfl (by kernel_rfl) .nil)) rfl ⟨_, rfl, HS.pick [2] (by decide) (by rfl)⟩
/-! ### spec_IntItem: function 143 -/
mutual
def spec_IntItem.l0 : Nat → Int → ByteArray → Option (S100)
  | 0, _, _ => none
  | k + 1, x15, x16 => (if 0 < x15 then (if (strOfNums ([((Int.tmod x15 256) % 256)] : List Int)).size + x16.size ≤ 9223372036854775807 then (spec_IntItem.l0 k (wrap64 (Int.tdiv x15 256)) ((strOfNums ([((Int.tmod x15 256) % 256)] : List Int)) ++ x16)) else none) else (if x16.toList = ([] : List UInt8) then (if (⟨#[0]⟩ : ByteArray).size + x16.size ≤ 9223372036854775807 then (some (⟨2, ((⟨#[0]⟩ : ByteArray) ++ x16), ([] : List S100)⟩ : S100)) else none) else (if 0 < (x16.size : Int) then (if 128 ≤ (bt x16 0) then (if (⟨#[0]⟩ : ByteArray).size + x16.size ≤ 9223372036854775807 then (some (⟨2, ((⟨#[0]⟩ : ByteArray) ++ x16), ([] : List S100)⟩ : S100)) else none) else (some (⟨2, x16, ([] : List S100)⟩ : S100))) else none)))
def spec_IntItem.l1 : Nat → Int → ByteArray → Option (S100)
  | 0, _, _ => none
  | k + 1, x44, x45 => (if 0 < x44 then (if (strOfNums ([((Int.tmod x44 256) % 256)] : List Int)).size + x45.size ≤ 9223372036854775807 then (spec_IntItem.l1 k (wrap64 (Int.tdiv x44 256)) ((strOfNums ([((Int.tmod x44 256) % 256)] : List Int)) ++ x45)) else none) else (if x45.toList = ([] : List UInt8) then (if (⟨#[0]⟩ : ByteArray).size + x45.size ≤ 9223372036854775807 then (some (⟨2, ((⟨#[0]⟩ : ByteArray) ++ x45), ([] : List S100)⟩ : S100)) else none) else (if 0 < (x45.size : Int) then (if 128 ≤ (bt x45 0) then (if (⟨#[0]⟩ : ByteArray).size + x45.size ≤ 9223372036854775807 then (some (⟨2, ((⟨#[0]⟩ : ByteArray) ++ x45), ([] : List S100)⟩ : S100)) else none) else (some (⟨2, x45, ([] : List S100)⟩ : S100))) else none)))
end
def spec_IntItem.f (k : Nat) (a0 : Int) : Option (S100) := ((spec_l01In.f a0 0 1000000000).bind fun t3 => (if t3 = true then (spec_IntItem.l0 k a0 (⟨#[]⟩ : ByteArray)) else (spec_IntItem.l1 k 0 (⟨#[]⟩ : ByteArray))))
set_option maxHeartbeats 16000000 in
theorem spec_IntItem.calls {k : Nat} {a0 : Int} {r : S100} {w : World} (h : spec_IntItem.f k a0 = some r) :
    Calls Try.prog 143 #[.int .i64 a0] w (fun e w' => ∃ v0_ : Value, e = .returned (.agg #[.int .i64 r.f0, .string r.f1, v0_]) ∧ Hp noFP w w' [.own (Zd.slice 100 q100) r.f2 [v0_]]) := by
 have HS := Hp.start w
 have H := Aside0.mk h
 clear h
 unfold spec_IntItem.f at H
 go_enter Try.func143, Try.ntmps143
 replace H := zbind H; obtain ⟨t3, ht3, H⟩ := H
 go_upto_if 6 with (first | ((with_reducible refine gate_dst (N := 2) rfl ?_); refine ev_box rfl HS (by first | (go_simp; done) | (go_simp; rfl)) rfl ?_; clear HS; (try clear F); intro g2 w2 HS; (try simp only [hpn, hpm] at HS); have F := HS.boxes; simp only [boxFacts, and_true] at F) | ((with_reducible refine gate_dst (N := 5) rfl ?_); refine ev_call rfl Try.func72 (by kernel_rfl) rfl #[.int .i64 a0, .int .i64 0, .int .i64 1000000000] rfl (by simp only [List.map_toArray, List.map_cons, List.map_nil]; rfl) ?_; refine (spec_l01In.calls ht3.out).mono ?_; rintro _ wt3 ⟨rfl, HQ⟩; refine ⟨_, rfl, ?_⟩; replace HS := HS.call HQ; clear HQ; (try clear F); (try simp only [hpn, hpm] at HS); have F := HS.boxes; simp only [boxFacts, and_true] at F))
 by_cases c5 : t3 = true
 · replace H := zpos c5 H
   subst c5
   (try simp only [dcn, if_true, Bool.false_eq_true, if_false])
   go_wp2
   go_loopg [0, 3] k (fun kq v_0 v_3 w' => ∃ (x15 : Int) (x16 : ByteArray), v_0 = .int .i64 x15 ∧ v_3 = .string x16 ∧ Aside0 (spec_IntItem.l0 kq x15 x16 = some r) ∧ Aside0 (kq ≤ k) ∧ Hp noFP w w' [.box g2 [.int .i64 0, .string (⟨#[]⟩ : ByteArray), .slice none 0 0] 100])
   case atStart => exact ⟨_, _, rfl, rfl, H, ⟨Nat.le_refl _⟩, HS⟩
   case round =>
    clear HS H; (try clear F)
    obtain ⟨x15, x16, rfl, rfl, H, HKk14, HS⟩ := hrel
    have F := HS.boxes; simp only [boxFacts, and_true] at F
    cases gk with
    | zero => exact absurd H.out (by simp [spec_IntItem.l0])
    | succ k14 =>
     simp only [spec_IntItem.l0] at H
     by_cases c18 : 0 < x15
     · replace H := zpos c18 H
       replace c18 := eq_true c18
       by_cases c21 : (strOfNums ([((Int.tmod x15 256) % 256)] : List Int)).size + x16.size ≤ 9223372036854775807
       case neg => exact zno c21 H
       replace H := zpos c21 H
       replace c21 := eq_true c21
       go_wp2_with (first | ((with_reducible refine gate_dst (N := 12) rfl ?_); refine ev_lit rfl (Zd.int .u8) [] ([((Int.tmod x15 256) % 256)] : List Int) ([.int .u8 ((Int.tmod x15 256) % 256)] ++ []) HS (by first | (go_simp; done) | (go_simp; rfl)) rfl rfl (Nat.le_of_ble_eq_true rfl) (MadeL.cons (js1 := []) (c := [.int .u8 ((Int.tmod x15 256) % 256)]) rfl (made_flat (fun _ => rfl)) MadeL.nil (by decide)) ?_; clear HS; (try clear F); intro v19 w19 HS; obtain ⟨B19, d19, rfl, m19⟩ := HS.formn 1 1 rfl rfl; (try simp only [hpn, hpm] at HS); have F := HS.boxes; simp only [boxFacts, and_true] at F) | ((with_reducible refine gate_dst (N := 13) rfl ?_); refine ev_val rfl (run_str rfl rfl Try.underlying210 Try.underlying5 Try.underlying9 (HS.rd 1 rfl)) ?_) | ((with_reducible refine gate_dst (N := 15) rfl ?_); refine ev_val rfl (run_cat rfl rfl rfl (of_eq_true c21)) ?_))
       go_roundg k14
       case measure => have := HKk14.out; omega
       case rel => exact ⟨_, _, rfl, rfl, H, ⟨by have := HKk14.out; omega⟩, HS.pick [0] (by decide) (by rfl)⟩
     · replace H := zneg c18 H
       replace c18 := eq_false c18
       by_cases c22 : x16.toList = ([] : List UInt8)
       · replace H := zpos c22 H
         have c22a := beq_iff_eq.mpr c22
         have c22b := bne_eq_false_iff_eq.mpr c22
         have c22e := List.isEmpty_iff.mpr c22
         clear c22
         by_cases c23 : (⟨#[0]⟩ : ByteArray).size + x16.size ≤ 9223372036854775807
         case neg => exact zno c23 H
         replace H := zpos c23 H
         replace c23 := eq_true c23
         obtain rfl := zsome H
         go_wp2_with (first | ((with_reducible refine gate_dst (N := 26) rfl ?_); refine ev_val rfl (run_cat rfl rfl rfl (of_eq_true c23)) ?_) | ((with_reducible refine gate_store (p := 2) rfl ?_); refine ev_store rfl 0 0 HS (seg := [.int .i64 2, .string ((⟨#[0]⟩ : ByteArray) ++ x16), .slice none 0 0]) rfl rfl rfl rfl rfl rfl (by kernel_rfl) (by simp [wrt]) (by simp [Value.oneCell']) ?_; clear HS; (try clear F); intro w24 HS; (try simp only [hpn, hpm] at HS); have F := HS.boxes; simp only [boxFacts, and_true] at F))
         replace HS := HS.nil 100 q100
         exact bodyPost_ret (results_single rfl (.cell _ _ _ _ _ rfl (HS.boxAt (i := 0) rfl) Try.underlying100 rfl (by kernel_rfl) .nil)) rfl ⟨_, rfl, HS.pick [1] (by decide) (by rfl)⟩
       · replace H := zneg c22 H
         have c22a := beq_eq_false_iff_ne.mpr c22
         have c22b := bne_iff_ne.mpr c22
         have c22e := List.isEmpty_eq_false_iff.mpr c22
         clear c22
         by_cases c26 : 0 < (x16.size : Int)
         case neg => exact zno c26 H
         replace H := zpos c26 H
         replace c26 := eq_true c26
         have c26n : (0 < x16.size) = True := eq_true (by have := of_eq_true c26; omega)
         have hx27 : ∀ h : 0 < x16.size, ((x16[0]'h).toNat : Int) = bt x16 0 := bt_at x16 0
         have hz28 : 0 < x16.size := (by have := of_eq_true c26; omega)
         by_cases c29 : 128 ≤ (bt x16 0)
         · replace H := zpos c29 H
           replace c29 := eq_true c29
           by_cases c30 : (⟨#[0]⟩ : ByteArray).size + x16.size ≤ 9223372036854775807
           case neg => exact zno c30 H
           replace H := zpos c30 H
           replace c30 := eq_true c30
           obtain rfl := zsome H
           go_wp2_with (first | ((with_reducible refine gate_dst (N := 26) rfl ?_); refine ev_val rfl (run_cat rfl rfl rfl (of_eq_true c30)) ?_) | ((with_reducible refine gate_store (p := 2) rfl ?_); refine ev_store rfl 0 0 HS (seg := [.int .i64 2, .string ((⟨#[0]⟩ : ByteArray) ++ x16), .slice none 0 0]) rfl rfl rfl rfl rfl rfl (by kernel_rfl) (by simp [wrt]) (by simp [Value.oneCell']) ?_; clear HS; (try clear F); intro w31 HS; (try simp only [hpn, hpm] at HS); have F := HS.boxes; simp only [boxFacts, and_true] at F))
           replace HS := HS.nil 100 q100
           exact bodyPost_ret (results_single rfl (.cell _ _ _ _ _ rfl (HS.boxAt (i := 0) rfl) Try.underlying100 rfl (by kernel_rfl) .nil)) rfl ⟨_, rfl, HS.pick [1] (by decide) (by rfl)⟩
         · replace H := zneg c29 H
           replace c29 := eq_false c29
           obtain rfl := zsome H
           go_wp2_with (first | ((with_reducible refine gate_store (p := 2) rfl ?_); refine ev_store rfl 0 0 HS (seg := [.int .i64 2, .string x16, .slice none 0 0]) rfl rfl rfl rfl rfl rfl (by kernel_rfl) (by simp [wrt]) (by simp [Value.oneCell']) ?_; clear HS; (try clear F); intro w33 HS; (try simp only [hpn, hpm] at HS); have F := HS.boxes; simp only [boxFacts, and_true] at F))
           replace HS := HS.nil 100 q100
           exact bodyPost_ret (results_single rfl (.cell _ _ _ _ _ rfl (HS.boxAt (i := 0) rfl) Try.underlying100 rfl (by kernel_rfl) .nil)) rfl ⟨_, rfl, HS.pick [1] (by decide) (by rfl)⟩
 · replace H := zneg c5 H
   replace c5 := eq_false_of_ne_true c5
   subst c5
   (try simp only [dcn, if_true, Bool.false_eq_true, if_false])
   go_wp2
   go_loopg [0, 3] k (fun kq v_0 v_3 w' => ∃ (x44 : Int) (x45 : ByteArray), v_0 = .int .i64 x44 ∧ v_3 = .string x45 ∧ Aside0 (spec_IntItem.l1 kq x44 x45 = some r) ∧ Aside0 (kq ≤ k) ∧ Hp noFP w w' [.box g2 [.int .i64 0, .string (⟨#[]⟩ : ByteArray), .slice none 0 0] 100])
   case atStart => exact ⟨_, _, rfl, rfl, H, ⟨Nat.le_refl _⟩, HS⟩
   case round =>
    clear HS H; (try clear F)
    obtain ⟨x44, x45, rfl, rfl, H, HKk43, HS⟩ := hrel
    have F := HS.boxes; simp only [boxFacts, and_true] at F
    cases gk with
    | zero => exact absurd H.out (by simp [spec_IntItem.l1])
    | succ k43 =>
     simp only [spec_IntItem.l1] at H
     by_cases c47 : 0 < x44
     · replace H := zpos c47 H
       replace c47 := eq_true c47
       by_cases c50 : (strOfNums ([((Int.tmod x44 256) % 256)] : List Int)).size + x45.size ≤ 9223372036854775807
       case neg => exact zno c50 H
       replace H := zpos c50 H
       replace c50 := eq_true c50
       go_wp2_with (first | ((with_reducible refine gate_dst (N := 12) rfl ?_); refine ev_lit rfl (Zd.int .u8) [] ([((Int.tmod x44 256) % 256)] : List Int) ([.int .u8 ((Int.tmod x44 256) % 256)] ++ []) HS (by first | (go_simp; done) | (go_simp; rfl)) rfl rfl (Nat.le_of_ble_eq_true rfl) (MadeL.cons (js1 := []) (c := [.int .u8 ((Int.tmod x44 256) % 256)]) rfl (made_flat (fun _ => rfl)) MadeL.nil (by decide)) ?_; clear HS; (try clear F); intro v48 w48 HS; obtain ⟨B48, d48, rfl, m48⟩ := HS.formn 1 1 rfl rfl; (try simp only [hpn, hpm] at HS); have F := HS.boxes; simp only [boxFacts, and_true] at F) | ((with_reducible refine gate_dst (N := 13) rfl ?_); refine ev_val rfl (run_str rfl rfl Try.underlying210 Try.underlying5 Try.underlying9 (HS.rd 1 rfl)) ?_) | ((with_reducible refine gate_dst (N := 15) rfl ?_); refine ev_val rfl (run_cat rfl rfl rfl (of_eq_true c50)) ?_))
       go_roundg k43
       case measure => have := HKk43.out; omega
       case rel => exact ⟨_, _, rfl, rfl, H, ⟨by have := HKk43.out; omega⟩, HS.pick [0] (by decide) (by rfl)⟩
     · replace H := zneg c47 H
       replace c47 := eq_false c47
       by_cases c51 : x45.toList = ([] : List UInt8)
       · replace H := zpos c51 H
         have c51a := beq_iff_eq.mpr c51
         have c51b := bne_eq_false_iff_eq.mpr c51
         have c51e := List.isEmpty_iff.mpr c51
         clear c51
         by_cases c52 : (⟨#[0]⟩ : ByteArray).size + x45.size ≤ 9223372036854775807
         case neg => exact zno c52 H
         replace H := zpos c52 H
         replace c52 := eq_true c52
         obtain rfl := zsome H
         go_wp2_with (first | ((with_reducible refine gate_dst (N := 26) rfl ?_); refine ev_val rfl (run_cat rfl rfl rfl (of_eq_true c52)) ?_) | ((with_reducible refine gate_store (p := 2) rfl ?_); refine ev_store rfl 0 0 HS (seg := [.int .i64 2, .string ((⟨#[0]⟩ : ByteArray) ++ x45), .slice none 0 0]) rfl rfl rfl rfl rfl rfl (by kernel_rfl) (by simp [wrt]) (by simp [Value.oneCell']) ?_; clear HS; (try clear F); intro w53 HS; (try simp only [hpn, hpm] at HS); have F := HS.boxes; simp only [boxFacts, and_true] at F))
         replace HS := HS.nil 100 q100
         exact bodyPost_ret (results_single rfl (.cell _ _ _ _ _ rfl (HS.boxAt (i := 0) rfl) Try.underlying100 rfl (by kernel_rfl) .nil)) rfl ⟨_, rfl, HS.pick [1] (by decide) (by rfl)⟩
       · replace H := zneg c51 H
         have c51a := beq_eq_false_iff_ne.mpr c51
         have c51b := bne_iff_ne.mpr c51
         have c51e := List.isEmpty_eq_false_iff.mpr c51
         clear c51
         by_cases c55 : 0 < (x45.size : Int)
         case neg => exact zno c55 H
         replace H := zpos c55 H
         replace c55 := eq_true c55
         have c55n : (0 < x45.size) = True := eq_true (by have := of_eq_true c55; omega)
         have hx56 : ∀ h : 0 < x45.size, ((x45[0]'h).toNat : Int) = bt x45 0 := bt_at x45 0
         have hz57 : 0 < x45.size := (by have := of_eq_true c55; omega)
         by_cases c58 : 128 ≤ (bt x45 0)
         · replace H := zpos c58 H
           replace c58 := eq_true c58
           by_cases c59 : (⟨#[0]⟩ : ByteArray).size + x45.size ≤ 9223372036854775807
           case neg => exact zno c59 H
           replace H := zpos c59 H
           replace c59 := eq_true c59
           obtain rfl := zsome H
           go_wp2_with (first | ((with_reducible refine gate_dst (N := 26) rfl ?_); refine ev_val rfl (run_cat rfl rfl rfl (of_eq_true c59)) ?_) | ((with_reducible refine gate_store (p := 2) rfl ?_); refine ev_store rfl 0 0 HS (seg := [.int .i64 2, .string ((⟨#[0]⟩ : ByteArray) ++ x45), .slice none 0 0]) rfl rfl rfl rfl rfl rfl (by kernel_rfl) (by simp [wrt]) (by simp [Value.oneCell']) ?_; clear HS; (try clear F); intro w60 HS; (try simp only [hpn, hpm] at HS); have F := HS.boxes; simp only [boxFacts, and_true] at F))
           replace HS := HS.nil 100 q100
           exact bodyPost_ret (results_single rfl (.cell _ _ _ _ _ rfl (HS.boxAt (i := 0) rfl) Try.underlying100 rfl (by kernel_rfl) .nil)) rfl ⟨_, rfl, HS.pick [1] (by decide) (by rfl)⟩
         · replace H := zneg c58 H
           replace c58 := eq_false c58
           obtain rfl := zsome H
           go_wp2_with (first | ((with_reducible refine gate_store (p := 2) rfl ?_); refine ev_store rfl 0 0 HS (seg := [.int .i64 2, .string x45, .slice none 0 0]) rfl rfl rfl rfl rfl rfl (by kernel_rfl) (by simp [wrt]) (by simp [Value.oneCell']) ?_; clear HS; (try clear F); intro w62 HS; (try simp only [hpn, hpm] at HS); have F := HS.boxes; simp only [boxFacts, and_true] at F))
           replace HS := HS.nil 100 q100
           exact bodyPost_ret (results_single rfl (.cell _ _ _ _ _ rfl (HS.boxAt (i := 0) rfl) Try.underlying100 rfl (by kernel_rfl) .nil)) rfl ⟨_, rfl, HS.pick [1] (by decide) (by rfl)⟩
/-! ### spec_l09Bool: function 144 -/
def spec_l09Bool.f (a0 : Bool) : Option (S100) := (if a0 = true then (some (⟨1, (⟨#[255]⟩ : ByteArray), ([] : List S100)⟩ : S100)) else (some (⟨1, (⟨#[0]⟩ : ByteArray), ([] : List S100)⟩ : S100)))
set_option maxHeartbeats 16000000 in
theorem spec_l09Bool.calls {a0 : Bool} {r : S100} {w : World} (h : spec_l09Bool.f a0 = some r) :
    Calls Try.prog 144 #[.bool a0] w (fun e w' => ∃ v0_ : Value, e = .returned (.agg #[.int .i64 r.f0, .string r.f1, v0_]) ∧ Hp noFP w w' [.own (Zd.slice 100 q100) r.f2 [v0_]]) := by
 have HS := Hp.start w
 have H := Aside0.mk h
 clear h
 unfold spec_l09Bool.f at H
 go_enter Try.func144, Try.ntmps144
 go_upto_if 3 with (first | ((with_reducible refine gate_dst (N := 2) rfl ?_); refine ev_box rfl HS (by first | (go_simp; done) | (go_simp; rfl)) rfl ?_; clear HS; (try clear F); intro g2 w2 HS; (try simp only [hpn, hpm] at HS); have F := HS.boxes; simp only [boxFacts, and_true] at F))
 by_cases c3 : a0 = true
 · replace H := zpos c3 H
   subst c3
   (try simp only [dcn, if_true, Bool.false_eq_true, if_false])
   obtain rfl := zsome H
   go_wp2_with (first | ((with_reducible refine gate_store (p := 2) rfl ?_); refine ev_store rfl 0 0 HS (seg := [.int .i64 1, .string (⟨#[255]⟩ : ByteArray), .slice none 0 0]) rfl rfl rfl rfl rfl rfl (by kernel_rfl) (by simp [wrt]) (by simp [Value.oneCell']) ?_; clear HS; (try clear F); intro w4 HS; (try simp only [hpn, hpm] at HS); have F := HS.boxes; simp only [boxFacts, and_true] at F))
   replace HS := HS.nil 100 q100
   exact bodyPost_ret (results_single rfl (.cell _ _ _ _ _ rfl (HS.boxAt (i := 0) rfl) Try.underlying100 rfl (by kernel_rfl) .nil)) rfl ⟨_, rfl, HS.pick [1] (by decide) (by rfl)⟩
 · replace H := zneg c3 H
   replace c3 := eq_false_of_ne_true c3
   subst c3
   (try simp only [dcn, if_true, Bool.false_eq_true, if_false])
   obtain rfl := zsome H
   go_wp2_with (first | ((with_reducible refine gate_store (p := 2) rfl ?_); refine ev_store rfl 0 0 HS (seg := [.int .i64 1, .string (⟨#[0]⟩ : ByteArray), .slice none 0 0]) rfl rfl rfl rfl rfl rfl (by kernel_rfl) (by simp [wrt]) (by simp [Value.oneCell']) ?_; clear HS; (try clear F); intro w6 HS; (try simp only [hpn, hpm] at HS); have F := HS.boxes; simp only [boxFacts, and_true] at F))
   replace HS := HS.nil 100 q100
   exact bodyPost_ret (results_single rfl (.cell _ _ _ _ _ rfl (HS.boxAt (i := 0) rfl) Try.underlying100 rfl (by kernel_rfl) .nil)) rfl ⟨_, rfl, HS.pick [1] (by decide) (by rfl)⟩
/-! ### spec_AskText: function 92 -/
def spec_AskText.f (k : Nat) (a0 : S79) : Option (ByteArray × Bool) := ((spec_AskOk.f k a0).bind fun t3 => (if t3 = true then ((spec_l14Texts.f k a0.f0).bind fun t102001 => ((spec_IntItem.f k a0.f1).bind fun t105001 => ((spec_IntItem.f k a0.f2).bind fun t108001 => ((spec_IntItem.f k a0.f3).bind fun t111001 => ((spec_IntItem.f k a0.f4).bind fun t114001 => ((spec_l09Bool.f a0.f5).bind fun t117001 => ((spec_ItemText.f k (⟨48, (⟨#[]⟩ : ByteArray), ([t102001, t105001, t108001, t111001, t114001, t117001] : List S100)⟩ : S100)).bind fun t120001 => (some (t120001.1, t120001.2))))))))) else (some ((⟨#[]⟩ : ByteArray), false))))
def spec_AskText.T3 : Bool × List (List Nat × List Nat) := (true, [([], []), ([0], [0]), ([1], [1]), ([], []), ([3], [3]), ([4, 2], [4]), ([], []), ([6], [6]), ([7, 5], [7]), ([], []), ([9], [9]), ([10, 8], [10]), ([], []), ([12], [12]), ([13, 11], [13]), ([], []), ([15], [15]), ([16, 14], [16]), ([2, 5, 8, 11, 14, 17], [2, 5, 8, 11, 14, 17]), ([18], [18]), ([19, 17], [19]), ([20], [20]), ([20], [20]), ([21, 20, 0, 1, 2, 3, 4, 5, 6, 7, 8, 9, 10, 11, 12, 13, 14, 15, 16, 17, 18, 19, 20, 21, 22], [21]), ([22, 23, 0, 1, 2, 3, 4, 5, 6, 7, 8, 9, 10, 11, 12, 13, 14, 15, 16, 17, 18, 19, 20, 21, 22, 23], [22])])
theorem spec_AskText.tT3 : rtab .any (opsOf Try.f92 3) = spec_AskText.T3 := by kernel_rfl
set_option maxHeartbeats 16000000 in
theorem spec_AskText.calls {k : Nat} {a0 : S79} {Ap0 : Option Addr} {np0 cp0 : Nat} {r1 : ByteArray} {r2 : Bool} {w : World} (h : spec_AskText.f k a0 = some (r1, r2)) (gp0 : Kd.string.C w Ap0 np0 a0.f0) (lp0 : np0 ≤ cp0) :
    Calls Try.prog 92 #[.agg #[.slice Ap0 np0 cp0, .int .i64 a0.f1, .int .i64 a0.f2, .int .i64 a0.f3, .int .i64 a0.f4, .bool a0.f5]] w (fun e w' => e = .returned (.tuple #[.string r1, .bool r2]) ∧ Hp noFP w w' []) := by
 obtain rfl := C_len gp0
 have HS := Hp.start w
 have H := Aside0.mk h
 clear h
 unfold spec_AskText.f at H
 go_enter Try.func92, Try.ntmps92
 replace H := zbind H; obtain ⟨t3, ht3, H⟩ := H
 go_upto_if 6 with (first | ((with_reducible refine gate_dst (N := 1) rfl ?_); refine ev_box rfl HS (by first | (go_simp; done) | (go_simp; rfl)) rfl ?_; clear HS; (try clear F); intro g1 w1 HS; (try simp only [hpn, hpm] at HS); have F := HS.boxes; simp only [boxFacts, and_true] at F) | ((with_reducible refine gate_dst (N := 5) rfl ?_); refine ev_call rfl Try.func141 (by kernel_rfl) rfl #[.agg #[.slice Ap0 a0.f0.length cp0, .int .i64 a0.f1, .int .i64 a0.f2, .int .i64 a0.f3, .int .i64 a0.f4, .bool a0.f5]] rfl (by simp only [List.map_toArray, List.map_cons, List.map_nil]; rfl) ?_; refine (spec_AskOk.calls ht3.out (HS.ro gp0) lp0).mono ?_; rintro _ wt3 ⟨rfl, HQ⟩; refine ⟨_, rfl, ?_⟩; replace HS := HS.call HQ; clear HQ; (try clear F); (try simp only [hpn, hpm] at HS); have F := HS.boxes; simp only [boxFacts, and_true] at F))
 by_cases c5 : t3 = true
 · replace H := zpos c5 H
   subst c5
   (try simp only [dcn, if_true, Bool.false_eq_true, if_false])
   (try go_wp2)
   replace H := zbind H; obtain ⟨t102001, ht102001, H⟩ := H
   replace H := zbind H; obtain ⟨t105001, ht105001, H⟩ := H
   replace H := zbind H; obtain ⟨t108001, ht108001, H⟩ := H
   replace H := zbind H; obtain ⟨t111001, ht111001, H⟩ := H
   replace H := zbind H; obtain ⟨t114001, ht114001, H⟩ := H
   replace H := zbind H; obtain ⟨t117001, ht117001, H⟩ := H
   replace H := zbind H; obtain ⟨t120001, ht120001, H⟩ := H
   refine dr_start [] HS #[false, false, false, false, false, false, false, false, false, false, false, false, false, false, false, false, false, false, false, false, false, false, false, false, false] (by kernel_rfl) rfl rfl spec_AskText.tT3 (fun w7 HT HS HH => ?_)
   (try clear F)
   refine drq_of [(0, some 7), (1, some 8), (3, some 10), (4, some 11), (6, some 13), (7, some 14), (9, some 16), (10, some 17), (12, some 19), (13, some 20), (15, some 22), (16, some 23)] ?_
   repeat (first | (refine drq_pure HT (v := ?_) (a' := ?_) rfl rfl (by kernel_rfl) (fun _ _ _ h => h) (.inl ⟨by rfl, ?_⟩) ?_ ?_; rotate_left; (intro w'; go_simp; with_reducible rfl); rotate_left; (simp only [Act.put, List.setIfInBounds_toArray, List.set_cons_zero, List.set_cons_succ, i64_w, i32_w]; rfl)) | (refine drq_take HT HH (v := ?_) (a' := ?_) rfl rfl (by kernel_rfl) (fun _ _ _ h => h) (.inl ⟨by rfl, ?_⟩) ?_ ?_; rotate_left; (rintro w' ⟨rs', HS'⟩; have F := HS'.boxes; simp only [boxFacts, List.cons_append, List.nil_append, and_true] at F; go_simp; with_reducible rfl); rotate_left; (simp only [Act.put, List.setIfInBounds_toArray, List.set_cons_zero, List.set_cons_succ, i64_w, i32_w]; rfl)))
   refine drq_end ?_
   refine dr_one 2 HT rfl (by kernel_rfl) (by decide) (fun K hK => ?_)
   refine goes_ Try.func142 (by kernel_rfl) rfl #[.slice Ap0 a0.f0.length cp0] (by rfl) rfl rfl (by simp only [List.map_toArray, List.map_cons, List.map_nil]; rfl) ?_; refine (spec_l14Texts.calls ht102001.out (HS.ro gp0) lp0).mono ?_; rintro _ wt102001 ⟨v102002, rfl, HQ⟩; refine ⟨_, rfl, ?_⟩; replace HS := HS.call HQ; clear HQ; (try clear F); obtain ⟨B102002, d102002, rfl, m102002⟩ := HS.form 1 rfl
   (try simp only [hpn, hpm] at HS)
   have F := HS.boxes; simp only [boxFacts, and_true] at F
   refine hK.out _ _ ⟨_, HS⟩ (fun HH => ?_)
   clear hK K
   refine norm_ (a' := ?_) ?_ ?_
   rotate_left
   · show Act.put _ (some 9) _ = _; simp only [Act.put, List.setIfInBounds_toArray, List.set_cons_zero, List.set_cons_succ, i64_w, i32_w]; rfl
   refine dr_one 5 HT rfl (by kernel_rfl) (by decide) (fun K hK => ?_)
   refine goes_ Try.func143 (by kernel_rfl) rfl #[.int .i64 a0.f1] (by rfl) rfl rfl (by simp only [List.map_toArray, List.map_cons, List.map_nil]; rfl) ?_; refine (spec_IntItem.calls ht105001.out).mono ?_; rintro _ wt105001 ⟨v105002, rfl, HQ⟩; refine ⟨_, rfl, ?_⟩; replace HS := HS.call HQ; clear HQ; (try clear F); obtain ⟨B105002, d105002, rfl, m105002⟩ := HS.form 2 rfl
   (try simp only [hpn, hpm] at HS)
   have F := HS.boxes; simp only [boxFacts, and_true] at F
   refine hK.out _ _ ⟨_, HS⟩ (fun HH => ?_)
   clear hK K
   refine norm_ (a' := ?_) ?_ ?_
   rotate_left
   · show Act.put _ (some 12) _ = _; simp only [Act.put, List.setIfInBounds_toArray, List.set_cons_zero, List.set_cons_succ, i64_w, i32_w]; rfl
   refine dr_one 8 HT rfl (by kernel_rfl) (by decide) (fun K hK => ?_)
   refine goes_ Try.func143 (by kernel_rfl) rfl #[.int .i64 a0.f2] (by rfl) rfl rfl (by simp only [List.map_toArray, List.map_cons, List.map_nil]; rfl) ?_; refine (spec_IntItem.calls ht108001.out).mono ?_; rintro _ wt108001 ⟨v108002, rfl, HQ⟩; refine ⟨_, rfl, ?_⟩; replace HS := HS.call HQ; clear HQ; (try clear F); obtain ⟨B108002, d108002, rfl, m108002⟩ := HS.form 3 rfl
   (try simp only [hpn, hpm] at HS)
   have F := HS.boxes; simp only [boxFacts, and_true] at F
   refine hK.out _ _ ⟨_, HS⟩ (fun HH => ?_)
   clear hK K
   refine norm_ (a' := ?_) ?_ ?_
   rotate_left
   · show Act.put _ (some 15) _ = _; simp only [Act.put, List.setIfInBounds_toArray, List.set_cons_zero, List.set_cons_succ, i64_w, i32_w]; rfl
   refine dr_one 11 HT rfl (by kernel_rfl) (by decide) (fun K hK => ?_)
   refine goes_ Try.func143 (by kernel_rfl) rfl #[.int .i64 a0.f3] (by rfl) rfl rfl (by simp only [List.map_toArray, List.map_cons, List.map_nil]; rfl) ?_; refine (spec_IntItem.calls ht111001.out).mono ?_; rintro _ wt111001 ⟨v111002, rfl, HQ⟩; refine ⟨_, rfl, ?_⟩; replace HS := HS.call HQ; clear HQ; (try clear F); obtain ⟨B111002, d111002, rfl, m111002⟩ := HS.form 4 rfl
   (try simp only [hpn, hpm] at HS)
   have F := HS.boxes; simp only [boxFacts, and_true] at F
   refine hK.out _ _ ⟨_, HS⟩ (fun HH => ?_)
   clear hK K
   refine norm_ (a' := ?_) ?_ ?_
   rotate_left
   · show Act.put _ (some 18) _ = _; simp only [Act.put, List.setIfInBounds_toArray, List.set_cons_zero, List.set_cons_succ, i64_w, i32_w]; rfl
   refine dr_one 14 HT rfl (by kernel_rfl) (by decide) (fun K hK => ?_)
   refine goes_ Try.func143 (by kernel_rfl) rfl #[.int .i64 a0.f4] (by rfl) rfl rfl (by simp only [List.map_toArray, List.map_cons, List.map_nil]; rfl) ?_; refine (spec_IntItem.calls ht114001.out).mono ?_; rintro _ wt114001 ⟨v114002, rfl, HQ⟩; refine ⟨_, rfl, ?_⟩; replace HS := HS.call HQ; clear HQ; (try clear F); obtain ⟨B114002, d114002, rfl, m114002⟩ := HS.form 5 rfl
   (try simp only [hpn, hpm] at HS)
   have F := HS.boxes; simp only [boxFacts, and_true] at F
   refine hK.out _ _ ⟨_, HS⟩ (fun HH => ?_)
   clear hK K
   refine norm_ (a' := ?_) ?_ ?_
   rotate_left
   · show Act.put _ (some 21) _ = _; simp only [Act.put, List.setIfInBounds_toArray, List.set_cons_zero, List.set_cons_succ, i64_w, i32_w]; rfl
   refine dr_one 17 HT rfl (by kernel_rfl) (by decide) (fun K hK => ?_)
   refine goes_ Try.func144 (by kernel_rfl) rfl #[.bool a0.f5] (by rfl) rfl rfl (by simp only [List.map_toArray, List.map_cons, List.map_nil]; rfl) ?_; refine (spec_l09Bool.calls ht117001.out).mono ?_; rintro _ wt117001 ⟨v117002, rfl, HQ⟩; refine ⟨_, rfl, ?_⟩; replace HS := HS.call HQ; clear HQ; (try clear F); obtain ⟨B117002, d117002, rfl, m117002⟩ := HS.form 6 rfl
   (try simp only [hpn, hpm] at HS)
   have F := HS.boxes; simp only [boxFacts, and_true] at F
   refine hK.out _ _ ⟨_, HS⟩ (fun HH => ?_)
   clear hK K
   refine norm_ (a' := ?_) ?_ ?_
   rotate_left
   · show Act.put _ (some 24) _ = _; simp only [Act.put, List.setIfInBounds_toArray, List.set_cons_zero, List.set_cons_succ, i64_w, i32_w]; rfl
   refine dr_one 18 HT rfl (by kernel_rfl) (by decide) (fun K hK => ?_)
   refine if_wp (by rfl) ?_; refine wp_lit q100 [1, 2, 3, 4, 5, 6] ([t102001, t105001, t108001, t111001, t114001, t117001] : List S100) ([.int .i64 t102001.f0, .string t102001.f1, .slice B102002 t102001.f2.length d102002] ++ ([.int .i64 t105001.f0, .string t105001.f1, .slice B105002 t105001.f2.length d105002] ++ ([.int .i64 t108001.f0, .string t108001.f1, .slice B108002 t108001.f2.length d108002] ++ ([.int .i64 t111001.f0, .string t111001.f1, .slice B111002 t111001.f2.length d111002] ++ ([.int .i64 t114001.f0, .string t114001.f1, .slice B114002 t114001.f2.length d114002] ++ ([.int .i64 t117001.f0, .string t117001.f1, .slice B117002 t117001.f2.length d117002] ++ [])))))) HS (by first | (go_simp; done) | (go_simp; rfl)) rfl rfl (Nat.le_of_ble_eq_true rfl) (MadeL.cons (js1 := [1]) (c := [.int .i64 t102001.f0, .string t102001.f1, .slice B102002 t102001.f2.length d102002]) rfl (fun S hd hh => q100_pack (x := t102001) hd (hh 1 (.own (Zd.slice 100 q100) t102001.f2 [.slice B102002 t102001.f2.length d102002]) rfl) (by decide)) (MadeL.cons (js1 := [2]) (c := [.int .i64 t105001.f0, .string t105001.f1, .slice B105002 t105001.f2.length d105002]) rfl (fun S hd hh => q100_pack (x := t105001) hd (hh 2 (.own (Zd.slice 100 q100) t105001.f2 [.slice B105002 t105001.f2.length d105002]) rfl) (by decide)) (MadeL.cons (js1 := [3]) (c := [.int .i64 t108001.f0, .string t108001.f1, .slice B108002 t108001.f2.length d108002]) rfl (fun S hd hh => q100_pack (x := t108001) hd (hh 3 (.own (Zd.slice 100 q100) t108001.f2 [.slice B108002 t108001.f2.length d108002]) rfl) (by decide)) (MadeL.cons (js1 := [4]) (c := [.int .i64 t111001.f0, .string t111001.f1, .slice B111002 t111001.f2.length d111002]) rfl (fun S hd hh => q100_pack (x := t111001) hd (hh 4 (.own (Zd.slice 100 q100) t111001.f2 [.slice B111002 t111001.f2.length d111002]) rfl) (by decide)) (MadeL.cons (js1 := [5]) (c := [.int .i64 t114001.f0, .string t114001.f1, .slice B114002 t114001.f2.length d114002]) rfl (fun S hd hh => q100_pack (x := t114001) hd (hh 5 (.own (Zd.slice 100 q100) t114001.f2 [.slice B114002 t114001.f2.length d114002]) rfl) (by decide)) (MadeL.cons (js1 := [6]) (c := [.int .i64 t117001.f0, .string t117001.f1, .slice B117002 t117001.f2.length d117002]) rfl (fun S hd hh => q100_pack (x := t117001) hd (hh 6 (.own (Zd.slice 100 q100) t117001.f2 [.slice B117002 t117001.f2.length d117002]) rfl) (by decide)) MadeL.nil (by decide)) (by decide)) (by decide)) (by decide)) (by decide)) (by decide)) ?_; clear HS; (try clear F); intro v118001 w118001 HS; obtain ⟨B118001, d118001, rfl, m118001⟩ := HS.formn 6 7 rfl rfl
   (try simp only [hpn, hpm] at HS)
   have F := HS.boxes; simp only [boxFacts, and_true] at F
   refine hK.out _ _ ⟨_, HS⟩ (fun HH => ?_)
   clear hK K
   refine norm_ (a' := ?_) ?_ ?_
   rotate_left
   · show Act.put _ (some 25) _ = _; simp only [Act.put, List.setIfInBounds_toArray, List.set_cons_zero, List.set_cons_succ, i64_w, i32_w]; rfl
   refine drq_of [(19, some 26)] ?_
   repeat (first | (refine drq_pure HT (v := ?_) (a' := ?_) rfl rfl (by kernel_rfl) (fun _ _ _ h => h) (.inl ⟨by rfl, ?_⟩) ?_ ?_; rotate_left; (intro w'; go_simp; with_reducible rfl); rotate_left; (simp only [Act.put, List.setIfInBounds_toArray, List.set_cons_zero, List.set_cons_succ, i64_w, i32_w]; rfl)))
   refine drq_end ?_
   refine dr_one 20 HT rfl (by kernel_rfl) (by decide) (fun K hK => ?_)
   refine goes_ Try.func112 (by kernel_rfl) rfl #[.agg #[.int .i64 48, .string (⟨#[]⟩ : ByteArray), .slice B118001 6 d118001]] (by rfl) rfl rfl (by simp only [List.map_toArray, List.map_cons, List.map_nil]; rfl) ?_; refine (spec_ItemText.calls ht120001.out (HS.rd 7 rfl) m118001).mono ?_; rintro _ wt120001 ⟨rfl, HQ⟩; refine ⟨_, rfl, ?_⟩; replace HS := HS.call HQ; clear HQ; (try clear F)
   (try simp only [hpn, hpm] at HS)
   have F := HS.boxes; simp only [boxFacts, and_true] at F
   refine hK.out _ _ ⟨_, HS⟩ (fun HH => ?_)
   clear hK K
   refine norm_ (a' := ?_) ?_ ?_
   rotate_left
   · show Act.put _ (some 27) _ = _; simp only [Act.put, List.setIfInBounds_toArray, List.set_cons_zero, List.set_cons_succ, i64_w, i32_w]; rfl
   refine drq_of [(21, some 28), (22, some 29), (23, some 2), (24, some 3)] ?_
   repeat (first | (refine drq_pure HT (v := ?_) (a' := ?_) rfl rfl (by kernel_rfl) (fun _ _ _ h => h) (.inl ⟨by rfl, ?_⟩) ?_ ?_; rotate_left; (intro w'; go_simp; with_reducible rfl); rotate_left; (simp only [Act.put, List.setIfInBounds_toArray, List.set_cons_zero, List.set_cons_succ, i64_w, i32_w]; rfl)))
   refine drq_end ?_
   refine done_ (done_of HT.out (by kernel_rfl)) ?_
   (try clear F)
   have F := HS.boxes; simp only [boxFacts, and_true] at F
   obtain ⟨rfl, rfl⟩ := zsome2 H
   go_wp2
   exact bodyPost_ret (results_list (rs := [.tmp 2, .tmp 3]) rfl (by simp) (.tmp (.tmp .nil))) rfl ⟨rfl, HS.pick [] (by decide) (by rfl)⟩
 · replace H := zneg c5 H
   replace c5 := eq_false_of_ne_true c5
   subst c5
   (try simp only [dcn, if_true, Bool.false_eq_true, if_false])
   obtain ⟨rfl, rfl⟩ := zsome2 H
   go_wp2
   exact bodyPost_ret (results_list (rs := [.tmp 2, .tmp 3]) rfl (by simp) (.tmp (.tmp .nil))) rfl ⟨rfl, HS.pick [] (by decide) (by rfl)⟩
/-! ### spec_l18Knows: function 93 -/
mutual
def spec_l18Knows.l0 : Nat → Int → S31 → Int → Option (Bool)
  | 0, _, _, _ => none
  | k + 1, x6, a0, a1 => (if x6 < (a0.f2.length : Int) then (if 0 ≤ x6 then (if x6 < (a0.f2.length : Int) then (if (rd_T89 a0.f2 x6).f0 = a1 then (some true) else (spec_l18Knows.l0 k (wrap64 (x6 + 1)) a0 a1)) else none) else none) else (spec_l18Knows.l1 k 0 a0 a1))
def spec_l18Knows.l1 : Nat → Int → S31 → Int → Option (Bool)
  | 0, _, _, _ => none
  | k + 1, x16, a0, a1 => (if x16 < (a0.f3.length : Int) then (if 0 ≤ x16 then (if x16 < (a0.f3.length : Int) then (if (rd_T150 a0.f3 x16).f0 = a1 then (some true) else (spec_l18Knows.l1 k (wrap64 (x16 + 1)) a0 a1)) else none) else none) else (some false))
end
def spec_l18Knows.f (k : Nat) (a0 : S31) (a1 : Int) : Option (Bool) := (spec_l18Knows.l0 k 0 a0 a1)
set_option maxHeartbeats 16000000 in
theorem spec_l18Knows.calls {k : Nat} {a0 : S31} {a1 : Int} {Ap0 : Option Addr} {np0 cp0 : Nat} {Ap1 : Option Addr} {np1 cp1 : Nat} {Ap2 : Option Addr} {np2 cp2 : Nat} {r : Bool} {w : World} (h : spec_l18Knows.f k a0 a1 = some r) (gp0 : k89.C w Ap0 np0 a0.f2) (lp0 : np0 ≤ cp0) (gp1 : k150.C w Ap1 np1 a0.f3) (lp1 : np1 ≤ cp1) (gp2 : (Kd.int .i64).C w Ap2 np2 a0.f4) (lp2 : np2 ≤ cp2) :
    Calls Try.prog 93 #[.agg #[.string a0.f0, .int .i64 a0.f1, .slice Ap0 np0 cp0, .slice Ap1 np1 cp1, .slice Ap2 np2 cp2], .int .i64 a1] w (fun e w' => e = .returned (.bool r) ∧ Hp noFP w w' []) := by
 obtain rfl := C_len gp0
 obtain rfl := C_len gp1
 obtain rfl := C_len gp2
 have HS := Hp.start w
 have H := Aside0.mk h
 clear h
 unfold spec_l18Knows.f at H
 go_enter Try.func93, Try.ntmps93
 go_wp2_with (first | ((with_reducible refine gate_dst (N := 2) rfl ?_); refine ev_box rfl HS (by first | (go_simp; done) | (go_simp; rfl)) rfl ?_; clear HS; (try clear F); intro g2 w2 HS; (try simp only [hpn, hpm] at HS); have F := HS.boxes; simp only [boxFacts, and_true] at F))
 go_loopg [5] k (fun kq v_5 w' => ∃ (x6 : Int), v_5 = .int .i64 x6 ∧ Aside0 (spec_l18Knows.l0 kq x6 a0 a1 = some r) ∧ Aside0 (kq ≤ k) ∧ Hp noFP w w' [.box g2 [.string a0.f0, .int .i64 a0.f1, .slice Ap0 a0.f2.length cp0, .slice Ap1 a0.f3.length cp1, .slice Ap2 a0.f4.length cp2] 31])
 case atStart => exact ⟨_, rfl, H, ⟨Nat.le_refl _⟩, HS⟩
 case round =>
  clear HS H; (try clear F)
  obtain ⟨x6, rfl, H, HKk5, HS⟩ := hrel
  have F := HS.boxes; simp only [boxFacts, and_true] at F
  cases gk with
  | zero => exact absurd H.out (by simp [spec_l18Knows.l0])
  | succ k5 =>
   simp only [spec_l18Knows.l0] at H
   by_cases c8 : x6 < (a0.f2.length : Int)
   · replace H := zpos c8 H
     replace c8 := eq_true c8
     by_cases c9 : 0 ≤ x6
     case neg => exact zno c9 H
     replace H := zpos c9 H
     replace c9 := eq_true c9
     by_cases c10 : x6 < (a0.f2.length : Int)
     case neg => exact zno c10 H
     replace H := zpos c10 H
     replace c10 := eq_true c10
     obtain ⟨ad11, rfl, e11_0, e11_1, e11_2, e11_3⟩ := at_T89 gp0 x6 (of_eq_true c9) (of_eq_true c10)
     have e11_0_11 := (HS.keepc e11_0)
     have e11_1_11 := (HS.keepc e11_1)
     have e11_2_11 := (HS.keepc e11_2)
     have e11_3_11 := (HS.keepc e11_3)
     by_cases c12 : (rd_T89 a0.f2 x6).f0 = a1
     · replace H := zpos c12 H
       have c12a := beq_iff_eq.mpr c12
       have c12b := bne_eq_false_iff_eq.mpr c12
       clear c12
       obtain rfl := zsome H
       go_wp2
       go_ret
       exact ⟨rfl, HS.pick [] (by decide) (by rfl)⟩
     · replace H := zneg c12 H
       have c12a := beq_eq_false_iff_ne.mpr c12
       have c12b := bne_iff_ne.mpr c12
       clear c12
       go_wp2
       go_roundg k5
       case measure => have := HKk5.out; omega
       case rel => exact ⟨_, rfl, H, ⟨by have := HKk5.out; omega⟩, HS.pick [0] (by decide) (by rfl)⟩
   · replace H := zneg c8 H
     replace c8 := eq_false c8
     go_wp2
     (try obtain ⟨wok15, rfl⟩ : ∃ wo_ : World, wo_ = wr := ⟨_, rfl⟩)
     go_loopg [6] k5 (fun kq v_6 w' => ∃ (x16 : Int), v_6 = .int .i64 x16 ∧ Aside0 (spec_l18Knows.l1 kq x16 a0 a1 = some r) ∧ Aside0 (kq ≤ k5) ∧ Hp noFP w w' [.box g2 [.string a0.f0, .int .i64 a0.f1, .slice Ap0 a0.f2.length cp0, .slice Ap1 a0.f3.length cp1, .slice Ap2 a0.f4.length cp2] 31])
     case atStart => exact ⟨_, rfl, H, ⟨Nat.le_refl _⟩, HS⟩
     case round =>
      clear HS H; (try clear F)
      obtain ⟨x16, rfl, H, HKk15, HS⟩ := hrel
      have F := HS.boxes; simp only [boxFacts, and_true] at F
      cases gk with
      | zero => exact absurd H.out (by simp [spec_l18Knows.l1])
      | succ k15 =>
       simp only [spec_l18Knows.l1] at H
       by_cases c18 : x16 < (a0.f3.length : Int)
       · replace H := zpos c18 H
         replace c18 := eq_true c18
         by_cases c19 : 0 ≤ x16
         case neg => exact zno c19 H
         replace H := zpos c19 H
         replace c19 := eq_true c19
         by_cases c20 : x16 < (a0.f3.length : Int)
         case neg => exact zno c20 H
         replace H := zpos c20 H
         replace c20 := eq_true c20
         obtain ⟨ad21, B21_7, d21_7, rfl, e21_0, e21_1, e21_2, e21_3, e21_4, e21_5, e21_6, e21_7, e21_8, m21_7, y21_7⟩ := at_T150 gp1 x16 (of_eq_true c19) (of_eq_true c20)
         have e21_0_21 := (HS.keepc e21_0)
         have e21_1_21 := (HS.keepc e21_1)
         have e21_2_21 := (HS.keepc e21_2)
         have e21_3_21 := (HS.keepc e21_3)
         have e21_4_21 := (HS.keepc e21_4)
         have e21_5_21 := (HS.keepc e21_5)
         have e21_6_21 := (HS.keepc e21_6)
         have e21_7_21 := (HS.keepc e21_7)
         have e21_8_21 := (HS.keepc e21_8)
         by_cases c22 : (rd_T150 a0.f3 x16).f0 = a1
         · replace H := zpos c22 H
           have c22a := beq_iff_eq.mpr c22
           have c22b := bne_eq_false_iff_eq.mpr c22
           clear c22
           obtain rfl := zsome H
           go_wp2
           go_ret
           exact ⟨rfl, HS.pick [] (by decide) (by rfl)⟩
         · replace H := zneg c22 H
           have c22a := beq_eq_false_iff_ne.mpr c22
           have c22b := bne_iff_ne.mpr c22
           clear c22
           go_wp2
           go_roundg k15
           case measure => have := HKk5.out; have := HKk15.out; omega
           case rel => exact ⟨_, rfl, H, ⟨by have := HKk5.out; have := HKk15.out; omega⟩, HS.pick [0] (by decide) (by rfl)⟩
       · replace H := zneg c18 H
         replace c18 := eq_false c18
         obtain rfl := zsome H
         go_wp2
         go_ret
         exact ⟨rfl, HS.pick [] (by decide) (by rfl)⟩
end Go.Proofs.Ytoaoncnbimcdgaa.F
