/- Functions of the program and of the law, and that their calls do what is written here. -/
import Derived.Test.YtoaoncnbimcdgaaDoorZgFnExactReadCrlg
import Derived.Test.YtoaoncnbimcdgaaDoorZgFnExactReadCrlj
namespace Go.Proofs.YtoaoncnbimcdgaaDoor.F
open Go.RowKit Go.Proofs.YtoaoncnbimcdgaaDoorW.PrintWords Go.Proofs.YtoaoncnbimcdgaaDoorW.PrintLast Go.Proofs.YtoaoncnbimcdgaaDoorW.PrintMore Go.Proofs.YtoaoncnbimcdgaaDoor.Z
attribute [local go_sem] max2_int min2_int max_two min_two max_three min_three max_four min_four
set_option linter.unusedVariables false
set_option linter.unusedSimpArgs false
set_option maxRecDepth 100000
/-! ### impl_ListItem: function 42 -/
def impl_ListItem.l0 : Nat → (List S65) → Int → (List S65) → Option (S65)
  | 0, _, _, _ => none
  | k + 1, l26, x28, a0 => (if x28 < (a0.length : Int) then (if 0 ≤ x28 then (if x28 < (a0.length : Int) then ((impl_copyItem.f k (rd_T65 a0 x28)).bind fun t203001 => (if l26.length + 1 ≤ 2932031007402 then (lets (l26 ++ ([t203001] : List S65)) fun y205999 => (impl_ListItem.l0 k y205999 (wrap64 (x28 + 1)) a0)) else none)) else none) else none) else (some (⟨48, (⟨#[]⟩ : ByteArray), l26⟩ : S65)))
def impl_ListItem.f (k : Nat) (a0 : (List S65)) : Option (S65) := (impl_ListItem.l0 k [] 0 a0)
def impl_ListItem.T5 : Bool × List (List Nat × List Nat) := (true, [([], []), ([0], [0]), ([], []), ([2], [2]), ([3], [3]), ([1, 4, 3], [1, 4]), ([0, 1, 2, 3, 4, 5], []), ([6, 5, 5, 0, 1, 2, 3, 4, 5], [5, 6])])
theorem impl_ListItem.tT5 : rtab .any (opsOf Tryd.f42 5) = impl_ListItem.T5 := by kernel_rfl
set_option maxHeartbeats 16000000 in
theorem impl_ListItem.calls {k : Nat} {a0 : (List S65)} {Ap0 : Option Addr} {np0 cp0 : Nat} {r : S65} {w : World} (h : impl_ListItem.f k a0 = some r) (gp0 : k65.C w Ap0 np0 a0) (lp0 : np0 ≤ cp0) :
    Calls Tryd.prog 42 #[.slice Ap0 np0 cp0] w (fun e w' => ∃ v0_ : Value, e = .returned (.agg #[.int .i64 r.f0, .string r.f1, v0_]) ∧ Hp noFP w w' [.own (Zd.slice 65 q65) r.f2 [v0_]]) := by
 obtain rfl := C_len gp0
 have HS := Hp.start w
 have H := Aside0.mk h
 clear h
 unfold impl_ListItem.f at H
 go_enter Tryd.func42, Tryd.ntmps42
 go_wp2_with (first | ((with_reducible refine gate_dst (N := 2) rfl ?_); refine ev_box rfl HS (by first | (go_simp; done) | (go_simp; rfl)) rfl ?_; clear HS; (try clear F); intro g2 w2 HS; (try simp only [hpn, hpm] at HS); have F := HS.boxes; simp only [boxFacts, and_true] at F) | ((with_reducible refine gate_dst (N := 3) rfl ?_); refine ev_box rfl HS (by first | (go_simp; done) | (go_simp; rfl)) rfl ?_; clear HS; (try clear F); intro g3 w3 HS; (try simp only [hpn, hpm] at HS); have F := HS.boxes; simp only [boxFacts, and_true] at F) | ((with_reducible refine gate_store (p := 3) rfl ?_); refine ev_store rfl 1 0 HS (seg := [.int .i64 48, .string (⟨#[]⟩ : ByteArray), .slice none 0 0]) rfl rfl rfl rfl rfl rfl (by kernel_rfl) (by simp [wrt]) (by simp [Value.oneCell']) ?_; clear HS; (try clear F); intro w5 HS; (try simp only [hpn, hpm] at HS); have F := HS.boxes; simp only [boxFacts, and_true] at F))
 replace HS := HS.nil 65 q65
 go_loopg [9] k (fun kq v_9 w' => ∃ (l26 : List S65) (v27 : Value) (x28 : Int), v_9 = .int .i64 x28 ∧ Aside0 (impl_ListItem.l0 kq l26 x28 a0 = some r) ∧ Aside0 (kq ≤ k) ∧ Hp noFP w w' [.box g2 [.int .i64 0, .string (⟨#[]⟩ : ByteArray), .slice none 0 0] 65, .box g3 [.int .i64 48, .string (⟨#[]⟩ : ByteArray), v27] 65, .own (Zd.slice 65 q65) l26 [v27]])
 case atStart => exact ⟨_, _, _, rfl, H, ⟨Nat.le_refl _⟩, HS⟩
 case round =>
  clear HS H; (try clear F)
  obtain ⟨l26, v27, x28, rfl, H, HKk25, HS⟩ := hrel
  obtain ⟨B27, d27, rfl, m27⟩ := HS.form 2 rfl
  have F := HS.boxes; simp only [boxFacts, and_true] at F
  cases gk with
  | zero => exact absurd H.out (by simp [impl_ListItem.l0])
  | succ k25 =>
   simp only [impl_ListItem.l0] at H
   by_cases c30 : x28 < (a0.length : Int)
   · replace H := zpos c30 H
     replace c30 := eq_true c30
     by_cases c31 : 0 ≤ x28
     case neg => exact zno c31 H
     replace H := zpos c31 H
     replace c31 := eq_true c31
     by_cases c32 : x28 < (a0.length : Int)
     case neg => exact zno c32 H
     replace H := zpos c32 H
     replace c32 := eq_true c32
     obtain ⟨ad33, B33_2, d33_2, rfl, e33_0, e33_1, e33_2, m33_2, y33_2⟩ := at_T65 gp0 x28 (of_eq_true c31) (of_eq_true c32)
     have e33_0_33 := (HS.keepc e33_0)
     have e33_1_33 := (HS.keepc e33_1)
     have e33_2_33 := (HS.keepc e33_2)
     go_wp2_with (first | ((with_reducible refine gate_dst (N := 5) rfl ?_); refine ev_box rfl HS (by first | (go_simp; done) | (go_simp; rfl)) rfl ?_; clear HS; (try clear F); intro g5 w5 HS; (try simp only [hpn, hpm] at HS); have F := HS.boxes; simp only [boxFacts, and_true] at F) | ((with_reducible refine gate_store (p := 5) rfl ?_); refine ev_store rfl 3 0 HS (seg := [.int .i64 ((rd_T65 a0 x28).f0), .string ((rd_T65 a0 x28).f1), .slice B33_2 (rd_T65 a0 x28).f2.length d33_2]) rfl rfl rfl rfl rfl rfl (by kernel_rfl) (by simp [wrt]) (by simp [Value.oneCell']) ?_; clear HS; (try clear F); intro w36 HS; (try simp only [hpn, hpm] at HS); have F := HS.boxes; simp only [boxFacts, and_true] at F))
     replace H := zbind H; obtain ⟨t203001, ht203001, H⟩ := H
     by_cases c205001 : l26.length + 1 ≤ 2932031007402
     case neg => exact zno c205001 H
     replace H := zpos c205001 H
     replace c205001 := eq_true c205001
     replace H := zlets H; obtain ⟨y205999, e_y205999, H⟩ := H
     refine dr_start2 [.box g2 [.int .i64 0, .string (⟨#[]⟩ : ByteArray), .slice none 0 0] 65, .box g3 [.int .i64 48, .string (⟨#[]⟩ : ByteArray), .slice B27 l26.length d27] 65, .emp, .box g5 [.int .i64 ((rd_T65 a0 x28).f0), .string ((rd_T65 a0 x28).f1), .slice B33_2 (rd_T65 a0 x28).f2.length d33_2] 65] [7] HS (HS.arr [some 0, some 1, none, some 3] (by decide)) #[false, false, false, false, false, false, false, false] (by kernel_rfl) rfl rfl impl_ListItem.tT5 (fun w39 HT HS HH => ?_)
     (try clear F)
     refine drq_of [(0, some 13), (1, some 14), (2, some 15)] ?_
     repeat (first | (refine drq_pure HT (v := ?_) (a' := ?_) rfl rfl (by kernel_rfl) (fun _ _ _ h => h) (.inl ⟨by rfl, ?_⟩) ?_ ?_; rotate_left; (intro w'; go_simp; with_reducible rfl); rotate_left; (simp only [Act.put, List.setIfInBounds_toArray, List.set_cons_zero, List.set_cons_succ, i64_w, i32_w]; rfl)) | (refine drq_take HT HH (v := ?_) (a' := ?_) rfl rfl (by kernel_rfl) (fun _ _ _ h => h) (.inl ⟨by rfl, ?_⟩) ?_ ?_; rotate_left; (rintro w' ⟨rs', HS'⟩; have F := HS'.boxes; simp only [boxFacts, List.cons_append, List.nil_append, and_true] at F; go_simp; with_reducible rfl); rotate_left; (simp only [Act.put, List.setIfInBounds_toArray, List.set_cons_zero, List.set_cons_succ, i64_w, i32_w]; rfl)))
     refine drq_end ?_
     refine dr_one 3 HT rfl (by kernel_rfl) (by decide) (fun K hK => ?_)
     refine goes_ Tryd.func87 (by kernel_rfl) rfl #[.agg #[.int .i64 ((rd_T65 a0 x28).f0), .string ((rd_T65 a0 x28).f1), .slice B33_2 (rd_T65 a0 x28).f2.length d33_2]] (by rfl) rfl rfl (by simp only [List.map_toArray, List.map_cons, List.map_nil]; rfl) ?_; refine (impl_copyItem.calls ht203001.out (HS.ro y33_2) m33_2).mono ?_; rintro _ wt203001 ⟨v203002, rfl, HQ⟩; refine ⟨_, rfl, ?_⟩; replace HS := HS.call HQ; clear HQ; (try clear F); obtain ⟨B203002, d203002, rfl, m203002⟩ := HS.form 4 rfl
     (try simp only [hpn, hpm] at HS)
     have F := HS.boxes; simp only [boxFacts, and_true] at F
     refine hK.out _ _ ⟨[], HS.arr [some 0, some 1, none, some 3] (by decide)⟩ (fun HH => ?_)
     clear hK K
     refine norm_ (a' := ?_) ?_ ?_
     rotate_left
     · show Act.put _ (some 16) _ = _; simp only [Act.put, List.setIfInBounds_toArray, List.set_cons_zero, List.set_cons_succ, i64_w, i32_w]; rfl
     refine dr_one 4 HT rfl (by kernel_rfl) (by decide) (fun K hK => ?_)
     refine if_wp (by rfl) ?_; refine wp_lit q65 [4] ([t203001] : List S65) ([.int .i64 t203001.f0, .string t203001.f1, .slice B203002 t203001.f2.length d203002] ++ []) HS (by first | (go_simp; done) | (go_simp; rfl)) rfl rfl (Nat.le_of_ble_eq_true rfl) (MadeL.cons (js1 := [4]) (c := [.int .i64 t203001.f0, .string t203001.f1, .slice B203002 t203001.f2.length d203002]) rfl (fun S hd hh => q65_pack (x := t203001) hd (hh 4 (.own (Zd.slice 65 q65) t203001.f2 [.slice B203002 t203001.f2.length d203002]) rfl) (by decide)) MadeL.nil (by decide)) ?_; clear HS; (try clear F); intro v204001 w204001 HS; obtain ⟨B204001, d204001, rfl, m204001⟩ := HS.formn 1 5 rfl rfl
     (try simp only [hpn, hpm] at HS)
     have F := HS.boxes; simp only [boxFacts, and_true] at F
     refine hK.out _ _ ⟨[], HS.arr [some 0, some 1, none, some 3] (by decide)⟩ (fun HH => ?_)
     clear hK K
     refine norm_ (a' := ?_) ?_ ?_
     rotate_left
     · show Act.put _ (some 17) _ = _; simp only [Act.put, List.setIfInBounds_toArray, List.set_cons_zero, List.set_cons_succ, i64_w, i32_w]; rfl
     refine dr_one 5 HT rfl (by kernel_rfl) (by decide) (fun K hK => ?_)
     refine if_wp (by rfl) ?_; refine wp_append q65 2 5 HS rfl rfl (by decide) rfl rfl rfl Tryd.underlying63 info65 rfl (by decide) (by decide) (by have := of_eq_true c205001; first | omega | (simp only [List.length_cons, List.length_nil, List.length_append, Nat.zero_add] at this ⊢; omega)) ?_; clear HS; (try clear F); intro v205999 w205999 HS; rw [← e_y205999.out] at HS; obtain ⟨B205999, d205999, rfl, m205999⟩ := HS.form 6 rfl
     (try simp only [hpn, hpm] at HS)
     have F := HS.boxes; simp only [boxFacts, and_true] at F
     refine hK.out _ _ ⟨[], HS.arr [some 0, some 1, none, some 3] (by decide)⟩ (fun HH => ?_)
     clear hK K
     refine norm_ (a' := ?_) ?_ ?_
     rotate_left
     · show Act.put _ (some 18) _ = _; simp only [Act.put, List.setIfInBounds_toArray, List.set_cons_zero, List.set_cons_succ, i64_w, i32_w]; rfl
     refine drq_of [(6, some 19)] ?_
     repeat (first | (refine drq_pure HT (v := ?_) (a' := ?_) rfl rfl (by kernel_rfl) (fun _ _ _ h => h) (.inl ⟨by rfl, ?_⟩) ?_ ?_; rotate_left; (intro w'; go_simp; with_reducible rfl); rotate_left; (simp only [Act.put, List.setIfInBounds_toArray, List.set_cons_zero, List.set_cons_succ, i64_w, i32_w]; rfl)))
     refine drq_end ?_
     refine dr_last 7 HT rfl (by kernel_rfl) (by decide) (fun K hK => ?_)
     refine if_wp (by rfl) ?_; refine wp_store 1 2 HS (seg := [.slice B205999 y205999.length d205999]) rfl rfl rfl rfl rfl rfl (by kernel_rfl) (by simp [wrt]) (by simp [Value.oneCell']) ?_; clear HS; (try clear F); intro w207001 HS
     (try simp only [hpn, hpm] at HS)
     have F := HS.boxes; simp only [boxFacts, and_true] at F
     refine hK.out _ _ ?_
     clear hK K
     refine done_ (done_of HT.out (by kernel_rfl)) ?_
     (try clear F)
     have F := HS.boxes; simp only [boxFacts, and_true] at F
     go_wp2
     go_roundg k25
     case measure => have := HKk25.out; omega
     case rel => exact ⟨_, _, _, rfl, H, ⟨by have := HKk25.out; omega⟩, HS.pick [0, 1, 6] (by decide) (by rfl)⟩
   · replace H := zneg c30 H
     replace c30 := eq_false c30
     obtain rfl := zsome H
     go_wp2_with (first | ((with_reducible refine gate_store (p := 2) rfl ?_); refine ev_store rfl 0 0 HS (seg := [.int .i64 48, .string (⟨#[]⟩ : ByteArray), .slice B27 l26.length d27]) rfl rfl rfl rfl rfl rfl (by kernel_rfl) (by simp [wrt]) (by simp [Value.oneCell']) ?_; clear HS; (try clear F); intro w41 HS; (try simp only [hpn, hpm] at HS); have F := HS.boxes; simp only [boxFacts, and_true] at F))
     exact bodyPost_ret (results_single rfl (.cell _ _ _ _ _ rfl (HS.boxAt (i := 0) rfl) Tryd.underlying65 rfl (by kernel_rfl) .nil)) rfl ⟨_, rfl, HS.pick [2] (by decide) (by rfl)⟩
/-! ### impl_bytesItem: function 44 -/
def impl_bytesItem.f (a0 : ByteArray) : Option (S65) := (some (⟨4, a0, ([] : List S65)⟩ : S65))
set_option maxHeartbeats 16000000 in
theorem impl_bytesItem.calls {a0 : ByteArray} {r : S65} {w : World} (h : impl_bytesItem.f a0 = some r) :
    Calls Tryd.prog 44 #[.string a0] w (fun e w' => ∃ v0_ : Value, e = .returned (.agg #[.int .i64 r.f0, .string r.f1, v0_]) ∧ Hp noFP w w' [.own (Zd.slice 65 q65) r.f2 [v0_]]) := by
 have HS := Hp.start w
 have H := Aside0.mk h
 clear h
 unfold impl_bytesItem.f at H
 go_enter Tryd.func44, Tryd.ntmps44
 obtain rfl := zsome H
 go_wp2_with (first | ((with_reducible refine gate_dst (N := 2) rfl ?_); refine ev_box rfl HS (by first | (go_simp; done) | (go_simp; rfl)) rfl ?_; clear HS; (try clear F); intro g2 w2 HS; (try simp only [hpn, hpm] at HS); have F := HS.boxes; simp only [boxFacts, and_true] at F) | ((with_reducible refine gate_store (p := 2) rfl ?_); refine ev_store rfl 0 0 HS (seg := [.int .i64 4, .string a0, .slice none 0 0]) rfl rfl rfl rfl rfl rfl (by kernel_rfl) (by simp [wrt]) (by simp [Value.oneCell']) ?_; clear HS; (try clear F); intro w3 HS; (try simp only [hpn, hpm] at HS); have F := HS.boxes; simp only [boxFacts, and_true] at F))
 replace HS := HS.nil 65 q65
 exact bodyPost_ret (results_single rfl (.cell _ _ _ _ _ rfl (HS.boxAt (i := 0) rfl) Tryd.underlying65 rfl (by kernel_rfl) .nil)) rfl ⟨_, rfl, HS.pick [1] (by decide) (by rfl)⟩
/-! ### impl_timeOk: function 80 -/
def impl_timeOk.f (a0 : Int) : Option (Bool) := ((impl_within.f a0 0 9999).bind fun t1 => (some t1))
set_option maxHeartbeats 16000000 in
theorem impl_timeOk.calls {a0 : Int} {r : Bool} {w : World} (h : impl_timeOk.f a0 = some r) :
    Calls Tryd.prog 80 #[.int .i64 a0] w (fun e w' => e = .returned (.bool r) ∧ Hp noFP w w' []) := by
 have HS := Hp.start w
 have H := Aside0.mk h
 clear h
 unfold impl_timeOk.f at H
 go_enter Tryd.func80, Tryd.ntmps80
 replace H := zbind H; obtain ⟨t1, ht1, H⟩ := H
 obtain rfl := zsome H
 go_wp2_with (first | ((with_reducible refine gate_dst (N := 4) rfl ?_); refine ev_call rfl Tryd.func82 (by kernel_rfl) rfl #[.int .i64 a0, .int .i64 0, .int .i64 9999] rfl (by simp only [List.map_toArray, List.map_cons, List.map_nil]; rfl) ?_; refine (impl_within.calls ht1.out).mono ?_; rintro _ wt1 ⟨rfl, HQ⟩; refine ⟨_, rfl, ?_⟩; replace HS := HS.call HQ; clear HQ; (try clear F); (try simp only [hpn, hpm] at HS)))
 go_ret
 exact ⟨rfl, HS.pick [] (by decide) (by rfl)⟩
/-! ### impl_NameOk: function 81 -/
def impl_NameOk.l0 : Nat → Int → ByteArray → (List ByteArray) → Option (Bool)
  | 0, _, _, _ => none
  | k + 1, x7, a0, t1 => (if x7 < (t1.length : Int) then (if 0 ≤ x7 then (if x7 < (t1.length : Int) then (if (rdOf ByteArray.empty t1 x7).toList = ([] : List UInt8) then (some false) else ((impl_bytesIn.f k (rdOf ByteArray.empty t1 x7) 97 122).bind fun t14 => (if t14 = true then (impl_NameOk.l0 k (wrap64 (x7 + 1)) a0 t1) else (some false)))) else none) else none) else (some (decide ((a0.size : Int) ≤ 20))))
def impl_NameOk.f (k : Nat) (a0 : ByteArray) : Option (Bool) := ((strings_Split.f a0 (⟨#[46]⟩ : ByteArray)).bind fun t1 => (impl_NameOk.l0 k 0 a0 t1))
set_option maxHeartbeats 16000000 in
theorem impl_NameOk.calls {k : Nat} {a0 : ByteArray} {mG : Int} {r : Bool} {w : World} (h : impl_NameOk.f k a0 = some r) (hgM : w.cell? ⟨0, 0, none⟩ = some (.int .i64 mG)) :
    Calls Tryd.prog 81 #[.string a0] w (fun e w' => e = .returned (.bool r) ∧ Hp noFP w w' []) := by
 have HS := Hp.start w
 have H := Aside0.mk h
 clear h
 unfold impl_NameOk.f at H
 go_enter Tryd.func81, Tryd.ntmps81
 replace H := zbind H; obtain ⟨t1, ht1, H⟩ := H
 go_wp2_with (first | ((with_reducible refine gate_dst (N := 6) rfl ?_); refine ev_call rfl Tryd.func104 (by kernel_rfl) rfl #[.string a0, .string (⟨#[46]⟩ : ByteArray)] rfl (by simp only [List.map_toArray, List.map_cons, List.map_nil]; rfl) ?_; refine (strings_Split.calls ht1.out (HS.keepc hgM)).mono ?_; rintro _ wt1 ⟨v2, rfl, HQ⟩; refine ⟨_, rfl, ?_⟩; replace HS := HS.call HQ; clear HQ; (try clear F); obtain ⟨B2, d2, rfl, m2⟩ := HS.form 0 rfl; (try simp only [hpn, hpm] at HS)))
 go_loopg [8] k (fun kq v_8 w' => ∃ (x7 : Int), v_8 = .int .i64 x7 ∧ Aside0 (impl_NameOk.l0 kq x7 a0 t1 = some r) ∧ Aside0 (kq ≤ k) ∧ Hp noFP w w' [.own (Zd.slice 9 Zd.string) t1 [.slice B2 t1.length d2]])
 case atStart => exact ⟨_, rfl, H, ⟨Nat.le_refl _⟩, HS⟩
 case round =>
  clear HS H; (try clear F)
  obtain ⟨x7, rfl, H, HKk6, HS⟩ := hrel
  cases gk with
  | zero => exact absurd H.out (by simp [impl_NameOk.l0])
  | succ k6 =>
   simp only [impl_NameOk.l0] at H
   by_cases c9 : x7 < (t1.length : Int)
   · replace H := zpos c9 H
     replace c9 := eq_true c9
     by_cases c10 : 0 ≤ x7
     case neg => exact zno c10 H
     replace H := zpos c10 H
     replace c10 := eq_true c10
     by_cases c11 : x7 < (t1.length : Int)
     case neg => exact zno c11 H
     replace H := zpos c11 H
     replace c11 := eq_true c11
     obtain ⟨ad12, rfl, e12_0⟩ := Kd.at_string (HS.rd 0 rfl) x7 (of_eq_true c10) (of_eq_true c11)
     by_cases c13 : (rdOf ByteArray.empty t1 x7).toList = ([] : List UInt8)
     · replace H := zpos c13 H
       have c13a := beq_iff_eq.mpr c13
       have c13b := bne_eq_false_iff_eq.mpr c13
       have c13e := List.isEmpty_iff.mpr c13
       clear c13
       obtain rfl := zsome H
       go_wp2
       go_ret
       exact ⟨rfl, HS.pick [] (by decide) (by rfl)⟩
     · replace H := zneg c13 H
       have c13a := beq_eq_false_iff_ne.mpr c13
       have c13b := bne_iff_ne.mpr c13
       have c13e := List.isEmpty_eq_false_iff.mpr c13
       clear c13
       replace H := zbind H; obtain ⟨t14, ht14, H⟩ := H
       go_upto_if 18 with (first | ((with_reducible refine gate_dst (N := 16) rfl ?_); refine gate_guard (by rfl) ?_; refine ev_call rfl Tryd.func105 (by kernel_rfl) rfl #[.string (rdOf ByteArray.empty t1 x7), .int .i64 97, .int .i64 122] rfl (by simp only [List.map_toArray, List.map_cons, List.map_nil]; rfl) ?_; refine (impl_bytesIn.calls ht14.out).mono ?_; rintro _ wt14 ⟨rfl, HQ⟩; refine ⟨_, rfl, ?_⟩; replace HS := HS.call HQ; clear HQ; (try clear F); (try simp only [hpn, hpm] at HS)))
       by_cases c16 : t14 = true
       · replace H := zpos c16 H
         subst c16
         (try simp only [dcn, if_true, Bool.false_eq_true, if_false])
         go_wp2
         go_roundg k6
         case measure => have := HKk6.out; omega
         case rel => exact ⟨_, rfl, H, ⟨by have := HKk6.out; omega⟩, HS.pick [0] (by decide) (by rfl)⟩
       · replace H := zneg c16 H
         replace c16 := eq_false_of_ne_true c16
         subst c16
         (try simp only [dcn, if_true, Bool.false_eq_true, if_false])
         obtain rfl := zsome H
         go_wp2
         go_ret
         exact ⟨rfl, HS.pick [] (by decide) (by rfl)⟩
   · replace H := zneg c9 H
     replace c9 := eq_false c9
     obtain rfl := zsome H
     go_wp2
     go_ret
     exact ⟨rfl, HS.pick [] (by decide) (by rfl)⟩
end Go.Proofs.YtoaoncnbimcdgaaDoor.F
