/- Functions of the program and of the law, and that their calls do what is written here. -/
import Derived.Test.YtdcjcanobiohnaaZgFnExactReplyBodyc
namespace Go.Proofs.Ytdcjcanobiohnaa.F
open Go.RowKit Go.Proofs.YtdcjcanobiohnaaW.PrintWords Go.Proofs.YtdcjcanobiohnaaW.PrintLast Go.Proofs.YtdcjcanobiohnaaW.PrintMore Go.Proofs.Ytdcjcanobiohnaa.Z
attribute [local go_sem] max2_int min2_int max_two min_two max_three min_three max_four min_four
set_option linter.unusedVariables false
set_option linter.unusedSimpArgs false
set_option maxRecDepth 100000
/-! ### impl_copyItem: function 136 -/
mutual
def impl_copyItem.l0 : Nat → (List S107) → Int → S107 → Option (S107)
  | 0, _, _, _ => none
  | k + 1, l28, x30, a0 => (if x30 < (a0.f2.length : Int) then (if 0 ≤ x30 then (if x30 < (a0.f2.length : Int) then ((impl_copyItem.f k (rd_T107 a0.f2 x30)).bind fun t203001 => (if l28.length + 1 ≤ 2932031007402 then (lets (l28 ++ ([t203001] : List S107)) fun y205002 => (impl_copyItem.l0 k y205002 (wrap64 (x30 + 1)) a0)) else none)) else none) else none) else (some (⟨a0.f0, a0.f1, l28⟩ : S107)))
def impl_copyItem.f : Nat → S107 → Option (S107)
  | 0, _ => none
  | k + 1, a0 => (impl_copyItem.l0 k [] 0 a0)
end
def impl_copyItem.T5 : Bool × List (List Nat × List Nat) := (true, [([], []), ([0], [0]), ([], []), ([2], [2]), ([3], [3]), ([1, 4, 3], [1, 4]), ([0, 1, 2, 3, 4, 5], []), ([6, 5, 5, 0, 1, 2, 3, 4, 5], [5, 6])])
theorem impl_copyItem.tT5 : rtab .any (opsOf Try.f136 5) = impl_copyItem.T5 := by kernel_rfl
set_option maxHeartbeats 16000000 in
theorem impl_copyItem.calls_ (K : Nat) : ∀ {k : Nat} (hK : k ≤ K) {a0 : S107} {Ap0 : Option Addr} {np0 cp0 : Nat} {r : S107} {w : World} (h : impl_copyItem.f k a0 = some r) (gp0 : k107.C w Ap0 np0 a0.f2) (lp0 : np0 ≤ cp0),
    Calls Try.prog 136 #[.agg #[.int .i64 a0.f0, .string a0.f1, .slice Ap0 np0 cp0]] w (fun e w' => ∃ v0_ : Value, e = .returned (.agg #[.int .i64 r.f0, .string r.f1, v0_]) ∧ Hp noFP w w' [.own (Zd.slice 107 q107) r.f2 [v0_]]) := by
  induction K with
  | zero =>
    intro k hK a0 Ap0 np0 cp0 r w h gp0 lp0
    obtain rfl : k = 0 := by omega
    exact absurd h (by simp [impl_copyItem.f])
  | succ K IH =>
    intro k hK a0 Ap0 np0 cp0 r w h gp0 lp0
    cases k with
    | zero => exact absurd h (by simp [impl_copyItem.f])
    | succ k =>
    have HK0 : Aside0 (k ≤ K) := ⟨by omega⟩
    clear hK
    obtain rfl := C_len gp0
    have HS := Hp.start w
    have H := Aside0.mk h
    clear h
    simp only [impl_copyItem.f] at H
    go_enter Try.func136, Try.ntmps136
    go_wp2_with (first | ((with_reducible refine gate_dst (N := 1) rfl ?_); refine ev_box rfl HS (by first | (go_simp; done) | (go_simp; rfl)) rfl ?_; clear HS; (try clear F); intro g1 w1 HS; replace HS : Hp noFP w _ [.box g1 [.int .i64 a0.f0, .string a0.f1, .slice Ap0 a0.f2.length cp0] 107] := HS; have F := HS.boxes; simp only [boxFacts, and_true] at F) | ((with_reducible refine gate_dst (N := 2) rfl ?_); refine ev_box rfl HS (by first | (go_simp; done) | (go_simp; rfl)) rfl ?_; clear HS; (try clear F); intro g2 w2 HS; replace HS : Hp noFP w _ [.box g1 [.int .i64 a0.f0, .string a0.f1, .slice Ap0 a0.f2.length cp0] 107, .box g2 [.int .i64 0, .string (⟨#[]⟩ : ByteArray), .slice none 0 0] 107] := HS; have F := HS.boxes; simp only [boxFacts, and_true] at F) | ((with_reducible refine gate_dst (N := 3) rfl ?_); refine ev_box rfl HS (by first | (go_simp; done) | (go_simp; rfl)) rfl ?_; clear HS; (try clear F); intro g3 w3 HS; replace HS : Hp noFP w _ [.box g1 [.int .i64 a0.f0, .string a0.f1, .slice Ap0 a0.f2.length cp0] 107, .box g2 [.int .i64 0, .string (⟨#[]⟩ : ByteArray), .slice none 0 0] 107, .box g3 [.int .i64 0, .string (⟨#[]⟩ : ByteArray), .slice none 0 0] 107] := HS; have F := HS.boxes; simp only [boxFacts, and_true] at F) | ((with_reducible refine gate_store (p := 3) rfl ?_); refine ev_store rfl 2 0 HS (seg := [.int .i64 a0.f0, .string a0.f1, .slice none 0 0]) rfl rfl rfl rfl rfl rfl (by kernel_rfl) (by simp [wrt]) (by simp [Value.oneCell']) ?_; clear HS; (try clear F); intro w7 HS; replace HS : Hp noFP w _ [.box g1 [.int .i64 a0.f0, .string a0.f1, .slice Ap0 a0.f2.length cp0] 107, .box g2 [.int .i64 0, .string (⟨#[]⟩ : ByteArray), .slice none 0 0] 107, .box g3 [.int .i64 a0.f0, .string a0.f1, .slice none 0 0] 107] := HS; have F := HS.boxes; simp only [boxFacts, and_true] at F))
    replace HS := HS.nil 107 q107
    go_loopg [14] k (fun kq v_14 w' => ∃ (l28 : List S107) (v29 : Value) (x30 : Int), v_14 = .int .i64 x30 ∧ Aside0 (impl_copyItem.l0 kq l28 x30 a0 = some r) ∧ Aside0 (kq ≤ k) ∧ Hp noFP w w' [.box g1 [.int .i64 a0.f0, .string a0.f1, .slice Ap0 a0.f2.length cp0] 107, .box g2 [.int .i64 0, .string (⟨#[]⟩ : ByteArray), .slice none 0 0] 107, .box g3 [.int .i64 a0.f0, .string a0.f1, v29] 107, .own (Zd.slice 107 q107) l28 [v29]])
    case atStart => exact ⟨_, _, _, rfl, H, ⟨Nat.le_refl _⟩, HS⟩
    case round =>
     clear HS H; (try clear F)
     obtain ⟨l28, v29, x30, rfl, H, HKk27, HS⟩ := hrel
     obtain ⟨B29, d29, rfl, m29⟩ := HS.form 3 rfl
     have F := HS.boxes; simp only [boxFacts, and_true] at F
     cases gk with
     | zero => exact absurd H.out (by simp [impl_copyItem.l0])
     | succ k27 =>
      simp only [impl_copyItem.l0] at H
      by_cases c32 : x30 < (a0.f2.length : Int)
      · replace H := zpos c32 H
        replace c32 := eq_true c32
        by_cases c33 : 0 ≤ x30
        case neg => exact zno c33 H
        replace H := zpos c33 H
        replace c33 := eq_true c33
        by_cases c34 : x30 < (a0.f2.length : Int)
        case neg => exact zno c34 H
        replace H := zpos c34 H
        replace c34 := eq_true c34
        obtain ⟨ad35, B35_2, d35_2, rfl, e35_0, e35_1, e35_2, m35_2, y35_2⟩ := at_T107 gp0 x30 (of_eq_true c33) (of_eq_true c34)
        have e35_0_35 := HS.keepc e35_0
        have e35_1_35 := HS.keepc e35_1
        have e35_2_35 := HS.keepc e35_2
        go_wp2_with (first | ((with_reducible refine gate_dst (N := 5) rfl ?_); refine ev_box rfl HS (by first | (go_simp; done) | (go_simp; rfl)) rfl ?_; clear HS; (try clear F); intro g5 w5 HS; replace HS : Hp noFP w _ [.box g1 [.int .i64 a0.f0, .string a0.f1, .slice (some ad35) a0.f2.length cp0] 107, .box g2 [.int .i64 0, .string (⟨#[]⟩ : ByteArray), .slice none 0 0] 107, .box g3 [.int .i64 a0.f0, .string a0.f1, .slice B29 l28.length d29] 107, .own (Zd.slice 107 q107) l28 [.slice B29 l28.length d29], .box g5 [.int .i64 0, .string (⟨#[]⟩ : ByteArray), .slice none 0 0] 107] := HS; have F := HS.boxes; simp only [boxFacts, and_true] at F) | ((with_reducible refine gate_store (p := 5) rfl ?_); refine ev_store rfl 4 0 HS (seg := [.int .i64 ((rd_T107 a0.f2 x30).f0), .string ((rd_T107 a0.f2 x30).f1), .slice B35_2 (rd_T107 a0.f2 x30).f2.length d35_2]) rfl rfl rfl rfl rfl rfl (by kernel_rfl) (by simp [wrt]) (by simp [Value.oneCell']) ?_; clear HS; (try clear F); intro w38 HS; replace HS : Hp noFP w _ [.box g1 [.int .i64 a0.f0, .string a0.f1, .slice (some ad35) a0.f2.length cp0] 107, .box g2 [.int .i64 0, .string (⟨#[]⟩ : ByteArray), .slice none 0 0] 107, .box g3 [.int .i64 a0.f0, .string a0.f1, .slice B29 l28.length d29] 107, .own (Zd.slice 107 q107) l28 [.slice B29 l28.length d29], .box g5 [.int .i64 ((rd_T107 a0.f2 x30).f0), .string ((rd_T107 a0.f2 x30).f1), .slice B35_2 (rd_T107 a0.f2 x30).f2.length d35_2] 107] := HS; have F := HS.boxes; simp only [boxFacts, and_true] at F))
        obtain ⟨t203001, ht203001, H⟩ := zbind H
        by_cases c205001 : l28.length + 1 ≤ 2932031007402
        case neg => exact zno c205001 H
        replace H := zpos c205001 H
        replace c205001 := eq_true c205001
        obtain ⟨y205002, e_y205002, H⟩ := zlets H
        refine dr_start2 [.box g1 [.int .i64 a0.f0, .string a0.f1, .slice (some ad35) a0.f2.length cp0] 107, .box g2 [.int .i64 0, .string (⟨#[]⟩ : ByteArray), .slice none 0 0] 107, .box g3 [.int .i64 a0.f0, .string a0.f1, .slice B29 l28.length d29] 107, .emp, .box g5 [.int .i64 ((rd_T107 a0.f2 x30).f0), .string ((rd_T107 a0.f2 x30).f1), .slice B35_2 (rd_T107 a0.f2 x30).f2.length d35_2] 107] [7] HS (HS.arr [some 0, some 1, some 2, none, some 4] (by decide)) #[false, false, false, false, false, false, false, false] (by kernel_rfl) rfl rfl impl_copyItem.tT5 (fun w41 HT HS HH => ?_)
        (try clear F)
        refine drq_of [(0, some 18), (1, some 19), (2, some 20)] ?_
        repeat (first | (refine drq_pure HT (v := ?_) (a' := ?_) rfl rfl (by kernel_rfl) (fun _ _ _ h => h) (.inl ⟨by rfl, ?_⟩) ?_ ?_; rotate_left; (intro w'; go_simp; with_reducible rfl); rotate_left; (simp only [Act.put, List.setIfInBounds_toArray, List.set_cons_zero, List.set_cons_succ, i64_w, i32_w]; rfl)) | (refine drq_take HT HH (v := ?_) (a' := ?_) rfl rfl (by kernel_rfl) (fun _ _ _ h => h) (.inl ⟨by rfl, ?_⟩) ?_ ?_; rotate_left; (rintro w' ⟨rs', HS'⟩; have F := HS'.boxes; simp only [boxFacts, List.cons_append, List.nil_append, and_true] at F; go_simp; with_reducible rfl); rotate_left; (simp only [Act.put, List.setIfInBounds_toArray, List.set_cons_zero, List.set_cons_succ, i64_w, i32_w]; rfl)))
        refine drq_end ?_
        refine dr_one 3 HT rfl (by kernel_rfl) (by decide) (fun K hK => ?_)
        refine goes_ Try.func136 (by kernel_rfl) rfl #[.agg #[.int .i64 ((rd_T107 a0.f2 x30).f0), .string ((rd_T107 a0.f2 x30).f1), .slice B35_2 (rd_T107 a0.f2 x30).f2.length d35_2]] (by rfl) rfl rfl (by simp only [List.map_toArray, List.map_cons, List.map_nil]; rfl) ?_; refine (IH (by have := HK0.out; have := HKk27.out; omega) ht203001.out (HS.ro y35_2) m35_2).mono ?_; rintro _ wt203001 ⟨v203002, rfl, HQ⟩; refine ⟨_, rfl, ?_⟩; replace HS := HS.call HQ; clear HQ; (try clear F); obtain ⟨B203002, d203002, rfl, m203002⟩ := HS.form 5 rfl
        replace HS : Hp noFP w _ [.box g1 [.int .i64 a0.f0, .string a0.f1, .slice (some ad35) a0.f2.length cp0] 107, .box g2 [.int .i64 0, .string (⟨#[]⟩ : ByteArray), .slice none 0 0] 107, .box g3 [.int .i64 a0.f0, .string a0.f1, .slice B29 l28.length d29] 107, .own (Zd.slice 107 q107) l28 [.slice B29 l28.length d29], .box g5 [.int .i64 ((rd_T107 a0.f2 x30).f0), .string ((rd_T107 a0.f2 x30).f1), .slice B35_2 (rd_T107 a0.f2 x30).f2.length d35_2] 107, .own (Zd.slice 107 q107) t203001.f2 [.slice B203002 t203001.f2.length d203002]] := HS
        have F := HS.boxes; simp only [boxFacts, and_true] at F
        refine hK.out _ _ ⟨[], HS.arr [some 0, some 1, some 2, none, some 4] (by decide)⟩ (fun HH => ?_)
        clear hK K
        refine norm_ (a' := ?_) ?_ ?_
        rotate_left
        · show Act.put _ (some 21) _ = _; simp only [Act.put, List.setIfInBounds_toArray, List.set_cons_zero, List.set_cons_succ, i64_w, i32_w]; rfl
        refine dr_one 4 HT rfl (by kernel_rfl) (by decide) (fun K hK => ?_)
        refine if_wp (by rfl) ?_; refine wp_lit q107 [5] ([t203001] : List S107) ([.int .i64 t203001.f0, .string t203001.f1, .slice B203002 t203001.f2.length d203002] ++ []) HS (by first | (go_simp; done) | (go_simp; rfl)) rfl rfl (Nat.le_of_ble_eq_true rfl) (MadeL.cons (js1 := [5]) (c := [.int .i64 t203001.f0, .string t203001.f1, .slice B203002 t203001.f2.length d203002]) rfl (fun S hd hh => q107_pack (x := t203001) hd (hh 5 (.own (Zd.slice 107 q107) t203001.f2 [.slice B203002 t203001.f2.length d203002]) rfl) (by decide)) MadeL.nil (by decide)) ?_; clear HS; (try clear F); intro v204001 w204001 HS; obtain ⟨B204001, d204001, rfl, m204001⟩ := HS.formn 1 6 rfl rfl
        replace HS : Hp noFP w _ [.box g1 [.int .i64 a0.f0, .string a0.f1, .slice (some ad35) a0.f2.length cp0] 107, .box g2 [.int .i64 0, .string (⟨#[]⟩ : ByteArray), .slice none 0 0] 107, .box g3 [.int .i64 a0.f0, .string a0.f1, .slice B29 l28.length d29] 107, .own (Zd.slice 107 q107) l28 [.slice B29 l28.length d29], .box g5 [.int .i64 ((rd_T107 a0.f2 x30).f0), .string ((rd_T107 a0.f2 x30).f1), .slice B35_2 (rd_T107 a0.f2 x30).f2.length d35_2] 107, .emp, .own (Zd.slice 107 q107) ([t203001] : List S107) [.slice B204001 1 d204001]] := HS
        have F := HS.boxes; simp only [boxFacts, and_true] at F
        refine hK.out _ _ ⟨[], HS.arr [some 0, some 1, some 2, none, some 4] (by decide)⟩ (fun HH => ?_)
        clear hK K
        refine norm_ (a' := ?_) ?_ ?_
        rotate_left
        · show Act.put _ (some 22) _ = _; simp only [Act.put, List.setIfInBounds_toArray, List.set_cons_zero, List.set_cons_succ, i64_w, i32_w]; rfl
        refine dr_one 5 HT rfl (by kernel_rfl) (by decide) (fun K hK => ?_)
        refine if_wp (by rfl) ?_; refine wp_append q107 3 6 HS rfl rfl (by decide) rfl rfl rfl Try.underlying105 info107 rfl (by decide) (by decide) (by have := of_eq_true c205001; first | omega | (simp only [List.length_cons, List.length_nil, List.length_append, Nat.zero_add] at this ⊢; omega)) ?_; clear HS; (try clear F); intro v205002 w205002 HS; rw [← e_y205002.out] at HS; obtain ⟨B205002, d205002, rfl, m205002⟩ := HS.form 7 rfl
        replace HS : Hp noFP w _ [.box g1 [.int .i64 a0.f0, .string a0.f1, .slice (some ad35) a0.f2.length cp0] 107, .box g2 [.int .i64 0, .string (⟨#[]⟩ : ByteArray), .slice none 0 0] 107, .box g3 [.int .i64 a0.f0, .string a0.f1, .slice B29 l28.length d29] 107, .emp, .box g5 [.int .i64 ((rd_T107 a0.f2 x30).f0), .string ((rd_T107 a0.f2 x30).f1), .slice B35_2 (rd_T107 a0.f2 x30).f2.length d35_2] 107, .emp, .emp, .own (Zd.slice 107 q107) y205002 [.slice B205002 y205002.length d205002]] := HS
        have F := HS.boxes; simp only [boxFacts, and_true] at F
        refine hK.out _ _ ⟨[], HS.arr [some 0, some 1, some 2, none, some 4] (by decide)⟩ (fun HH => ?_)
        clear hK K
        refine norm_ (a' := ?_) ?_ ?_
        rotate_left
        · show Act.put _ (some 23) _ = _; simp only [Act.put, List.setIfInBounds_toArray, List.set_cons_zero, List.set_cons_succ, i64_w, i32_w]; rfl
        refine drq_of [(6, some 24)] ?_
        repeat (first | (refine drq_pure HT (v := ?_) (a' := ?_) rfl rfl (by kernel_rfl) (fun _ _ _ h => h) (.inl ⟨by rfl, ?_⟩) ?_ ?_; rotate_left; (intro w'; go_simp; with_reducible rfl); rotate_left; (simp only [Act.put, List.setIfInBounds_toArray, List.set_cons_zero, List.set_cons_succ, i64_w, i32_w]; rfl)))
        refine drq_end ?_
        refine dr_last 7 HT rfl (by kernel_rfl) (by decide) (fun K hK => ?_)
        refine if_wp (by rfl) ?_; refine wp_store 2 2 HS (seg := [.slice B205002 y205002.length d205002]) rfl rfl rfl rfl rfl rfl (by kernel_rfl) (by simp [wrt]) (by simp [Value.oneCell']) ?_; clear HS; (try clear F); intro w207001 HS
        replace HS : Hp noFP w _ [.box g1 [.int .i64 a0.f0, .string a0.f1, .slice (some ad35) a0.f2.length cp0] 107, .box g2 [.int .i64 0, .string (⟨#[]⟩ : ByteArray), .slice none 0 0] 107, .box g3 [.int .i64 a0.f0, .string a0.f1, .slice B205002 y205002.length d205002] 107, .emp, .box g5 [.int .i64 ((rd_T107 a0.f2 x30).f0), .string ((rd_T107 a0.f2 x30).f1), .slice B35_2 (rd_T107 a0.f2 x30).f2.length d35_2] 107, .emp, .emp, .own (Zd.slice 107 q107) y205002 [.slice B205002 y205002.length d205002]] := HS
        have F := HS.boxes; simp only [boxFacts, and_true] at F
        refine hK.out _ _ ?_
        clear hK K
        refine done_ (done_of HT.out (by kernel_rfl)) ?_
        go_wp2
        go_roundg k27
        case measure => have := HK0.out; have := HKk27.out; omega
        case rel => exact ⟨_, _, _, rfl, H, ⟨by have := HK0.out; have := HKk27.out; omega⟩, HS.pick [0, 1, 2, 7] (by decide) (by rfl)⟩
      · replace H := zneg c32 H
        replace c32 := eq_false c32
        obtain rfl := zsome H
        go_wp2_with (first | ((with_reducible refine gate_store (p := 2) rfl ?_); refine ev_store rfl 1 0 HS (seg := [.int .i64 a0.f0, .string a0.f1, .slice B29 l28.length d29]) rfl rfl rfl rfl rfl rfl (by kernel_rfl) (by simp [wrt]) (by simp [Value.oneCell']) ?_; clear HS; (try clear F); intro w43 HS; replace HS : Hp noFP w _ [.box g1 [.int .i64 a0.f0, .string a0.f1, .slice Ap0 a0.f2.length cp0] 107, .box g2 [.int .i64 a0.f0, .string a0.f1, .slice B29 l28.length d29] 107, .box g3 [.int .i64 a0.f0, .string a0.f1, .slice B29 l28.length d29] 107, .own (Zd.slice 107 q107) l28 [.slice B29 l28.length d29]] := HS; have F := HS.boxes; simp only [boxFacts, and_true] at F))
        exact bodyPost_ret (results_single rfl (.cell _ _ _ _ _ rfl (HS.boxAt (i := 1) rfl) Try.underlying107 rfl (by kernel_rfl) .nil)) rfl ⟨_, rfl, HS.pick [3] (by decide) (by rfl)⟩
theorem impl_copyItem.calls {k : Nat} {a0 : S107} {Ap0 : Option Addr} {np0 cp0 : Nat} {r : S107} {w : World} (h : impl_copyItem.f k a0 = some r) (gp0 : k107.C w Ap0 np0 a0.f2) (lp0 : np0 ≤ cp0) :
    Calls Try.prog 136 #[.agg #[.int .i64 a0.f0, .string a0.f1, .slice Ap0 np0 cp0]] w (fun e w' => ∃ v0_ : Value, e = .returned (.agg #[.int .i64 r.f0, .string r.f1, v0_]) ∧ Hp noFP w w' [.own (Zd.slice 107 q107) r.f2 [v0_]]) := impl_copyItem.calls_ k (Nat.le_refl k) h gp0 lp0
/-! ### impl_ListItem: function 73 -/
def impl_ListItem.l0 : Nat → (List S107) → Int → (List S107) → Option (S107)
  | 0, _, _, _ => none
  | k + 1, l26, x28, a0 => (if x28 < (a0.length : Int) then (if 0 ≤ x28 then (if x28 < (a0.length : Int) then ((impl_copyItem.f k (rd_T107 a0 x28)).bind fun t203001 => (if l26.length + 1 ≤ 2932031007402 then (lets (l26 ++ ([t203001] : List S107)) fun y205002 => (impl_ListItem.l0 k y205002 (wrap64 (x28 + 1)) a0)) else none)) else none) else none) else (some (⟨48, (⟨#[]⟩ : ByteArray), l26⟩ : S107)))
def impl_ListItem.f (k : Nat) (a0 : (List S107)) : Option (S107) := (impl_ListItem.l0 k [] 0 a0)
def impl_ListItem.T5 : Bool × List (List Nat × List Nat) := (true, [([], []), ([0], [0]), ([], []), ([2], [2]), ([3], [3]), ([1, 4, 3], [1, 4]), ([0, 1, 2, 3, 4, 5], []), ([6, 5, 5, 0, 1, 2, 3, 4, 5], [5, 6])])
theorem impl_ListItem.tT5 : rtab .any (opsOf Try.f73 5) = impl_ListItem.T5 := by kernel_rfl
set_option maxHeartbeats 16000000 in
theorem impl_ListItem.calls {k : Nat} {a0 : (List S107)} {Ap0 : Option Addr} {np0 cp0 : Nat} {r : S107} {w : World} (h : impl_ListItem.f k a0 = some r) (gp0 : k107.C w Ap0 np0 a0) (lp0 : np0 ≤ cp0) :
    Calls Try.prog 73 #[.slice Ap0 np0 cp0] w (fun e w' => ∃ v0_ : Value, e = .returned (.agg #[.int .i64 r.f0, .string r.f1, v0_]) ∧ Hp noFP w w' [.own (Zd.slice 107 q107) r.f2 [v0_]]) := by
 obtain rfl := C_len gp0
 have HS := Hp.start w
 have H := Aside0.mk h
 clear h
 unfold impl_ListItem.f at H
 go_enter Try.func73, Try.ntmps73
 go_wp2_with (first | ((with_reducible refine gate_dst (N := 2) rfl ?_); refine ev_box rfl HS (by first | (go_simp; done) | (go_simp; rfl)) rfl ?_; clear HS; (try clear F); intro g2 w2 HS; replace HS : Hp noFP w _ [.box g2 [.int .i64 0, .string (⟨#[]⟩ : ByteArray), .slice none 0 0] 107] := HS; have F := HS.boxes; simp only [boxFacts, and_true] at F) | ((with_reducible refine gate_dst (N := 3) rfl ?_); refine ev_box rfl HS (by first | (go_simp; done) | (go_simp; rfl)) rfl ?_; clear HS; (try clear F); intro g3 w3 HS; replace HS : Hp noFP w _ [.box g2 [.int .i64 0, .string (⟨#[]⟩ : ByteArray), .slice none 0 0] 107, .box g3 [.int .i64 0, .string (⟨#[]⟩ : ByteArray), .slice none 0 0] 107] := HS; have F := HS.boxes; simp only [boxFacts, and_true] at F) | ((with_reducible refine gate_store (p := 3) rfl ?_); refine ev_store rfl 1 0 HS (seg := [.int .i64 48, .string (⟨#[]⟩ : ByteArray), .slice none 0 0]) rfl rfl rfl rfl rfl rfl (by kernel_rfl) (by simp [wrt]) (by simp [Value.oneCell']) ?_; clear HS; (try clear F); intro w5 HS; replace HS : Hp noFP w _ [.box g2 [.int .i64 0, .string (⟨#[]⟩ : ByteArray), .slice none 0 0] 107, .box g3 [.int .i64 48, .string (⟨#[]⟩ : ByteArray), .slice none 0 0] 107] := HS; have F := HS.boxes; simp only [boxFacts, and_true] at F))
 replace HS := HS.nil 107 q107
 go_loopg [9] k (fun kq v_9 w' => ∃ (l26 : List S107) (v27 : Value) (x28 : Int), v_9 = .int .i64 x28 ∧ Aside0 (impl_ListItem.l0 kq l26 x28 a0 = some r) ∧ Aside0 (kq ≤ k) ∧ Hp noFP w w' [.box g2 [.int .i64 0, .string (⟨#[]⟩ : ByteArray), .slice none 0 0] 107, .box g3 [.int .i64 48, .string (⟨#[]⟩ : ByteArray), v27] 107, .own (Zd.slice 107 q107) l26 [v27]])
 case atStart => exact ⟨_, _, _, rfl, H, ⟨Nat.le_refl _⟩, HS⟩
 case round =>
  clear HS H; (try clear F)
  obtain ⟨l26, v27, x28, rfl, H, HKk25, HS⟩ := hrel
  obtain ⟨B27, d27, rfl, m27⟩ := HS.form 2 rfl
  have F := HS.boxes; simp only [boxFacts, and_true] at F
  cases gk with
  | zero => exact absurd H.out (by simp [impl_ListItem.l0])
  | succ k25 =>
   simp only [impl_ListItem.l0] at H
   by_cases c30 : x28 < (a0.length : Int)
   · replace H := zpos c30 H
     replace c30 := eq_true c30
     by_cases c31 : 0 ≤ x28
     case neg => exact zno c31 H
     replace H := zpos c31 H
     replace c31 := eq_true c31
     by_cases c32 : x28 < (a0.length : Int)
     case neg => exact zno c32 H
     replace H := zpos c32 H
     replace c32 := eq_true c32
     obtain ⟨ad33, B33_2, d33_2, rfl, e33_0, e33_1, e33_2, m33_2, y33_2⟩ := at_T107 gp0 x28 (of_eq_true c31) (of_eq_true c32)
     have e33_0_33 := HS.keepc e33_0
     have e33_1_33 := HS.keepc e33_1
     have e33_2_33 := HS.keepc e33_2
     go_wp2_with (first | ((with_reducible refine gate_dst (N := 5) rfl ?_); refine ev_box rfl HS (by first | (go_simp; done) | (go_simp; rfl)) rfl ?_; clear HS; (try clear F); intro g5 w5 HS; replace HS : Hp noFP w _ [.box g2 [.int .i64 0, .string (⟨#[]⟩ : ByteArray), .slice none 0 0] 107, .box g3 [.int .i64 48, .string (⟨#[]⟩ : ByteArray), .slice B27 l26.length d27] 107, .own (Zd.slice 107 q107) l26 [.slice B27 l26.length d27], .box g5 [.int .i64 0, .string (⟨#[]⟩ : ByteArray), .slice none 0 0] 107] := HS; have F := HS.boxes; simp only [boxFacts, and_true] at F) | ((with_reducible refine gate_store (p := 5) rfl ?_); refine ev_store rfl 3 0 HS (seg := [.int .i64 ((rd_T107 a0 x28).f0), .string ((rd_T107 a0 x28).f1), .slice B33_2 (rd_T107 a0 x28).f2.length d33_2]) rfl rfl rfl rfl rfl rfl (by kernel_rfl) (by simp [wrt]) (by simp [Value.oneCell']) ?_; clear HS; (try clear F); intro w36 HS; replace HS : Hp noFP w _ [.box g2 [.int .i64 0, .string (⟨#[]⟩ : ByteArray), .slice none 0 0] 107, .box g3 [.int .i64 48, .string (⟨#[]⟩ : ByteArray), .slice B27 l26.length d27] 107, .own (Zd.slice 107 q107) l26 [.slice B27 l26.length d27], .box g5 [.int .i64 ((rd_T107 a0 x28).f0), .string ((rd_T107 a0 x28).f1), .slice B33_2 (rd_T107 a0 x28).f2.length d33_2] 107] := HS; have F := HS.boxes; simp only [boxFacts, and_true] at F))
     obtain ⟨t203001, ht203001, H⟩ := zbind H
     by_cases c205001 : l26.length + 1 ≤ 2932031007402
     case neg => exact zno c205001 H
     replace H := zpos c205001 H
     replace c205001 := eq_true c205001
     obtain ⟨y205002, e_y205002, H⟩ := zlets H
     refine dr_start2 [.box g2 [.int .i64 0, .string (⟨#[]⟩ : ByteArray), .slice none 0 0] 107, .box g3 [.int .i64 48, .string (⟨#[]⟩ : ByteArray), .slice B27 l26.length d27] 107, .emp, .box g5 [.int .i64 ((rd_T107 a0 x28).f0), .string ((rd_T107 a0 x28).f1), .slice B33_2 (rd_T107 a0 x28).f2.length d33_2] 107] [7] HS (HS.arr [some 0, some 1, none, some 3] (by decide)) #[false, false, false, false, false, false, false, false] (by kernel_rfl) rfl rfl impl_ListItem.tT5 (fun w39 HT HS HH => ?_)
     (try clear F)
     refine drq_of [(0, some 13), (1, some 14), (2, some 15)] ?_
     repeat (first | (refine drq_pure HT (v := ?_) (a' := ?_) rfl rfl (by kernel_rfl) (fun _ _ _ h => h) (.inl ⟨by rfl, ?_⟩) ?_ ?_; rotate_left; (intro w'; go_simp; with_reducible rfl); rotate_left; (simp only [Act.put, List.setIfInBounds_toArray, List.set_cons_zero, List.set_cons_succ, i64_w, i32_w]; rfl)) | (refine drq_take HT HH (v := ?_) (a' := ?_) rfl rfl (by kernel_rfl) (fun _ _ _ h => h) (.inl ⟨by rfl, ?_⟩) ?_ ?_; rotate_left; (rintro w' ⟨rs', HS'⟩; have F := HS'.boxes; simp only [boxFacts, List.cons_append, List.nil_append, and_true] at F; go_simp; with_reducible rfl); rotate_left; (simp only [Act.put, List.setIfInBounds_toArray, List.set_cons_zero, List.set_cons_succ, i64_w, i32_w]; rfl)))
     refine drq_end ?_
     refine dr_one 3 HT rfl (by kernel_rfl) (by decide) (fun K hK => ?_)
     refine goes_ Try.func136 (by kernel_rfl) rfl #[.agg #[.int .i64 ((rd_T107 a0 x28).f0), .string ((rd_T107 a0 x28).f1), .slice B33_2 (rd_T107 a0 x28).f2.length d33_2]] (by rfl) rfl rfl (by simp only [List.map_toArray, List.map_cons, List.map_nil]; rfl) ?_; refine (impl_copyItem.calls ht203001.out (HS.ro y33_2) m33_2).mono ?_; rintro _ wt203001 ⟨v203002, rfl, HQ⟩; refine ⟨_, rfl, ?_⟩; replace HS := HS.call HQ; clear HQ; (try clear F); obtain ⟨B203002, d203002, rfl, m203002⟩ := HS.form 4 rfl
     replace HS : Hp noFP w _ [.box g2 [.int .i64 0, .string (⟨#[]⟩ : ByteArray), .slice none 0 0] 107, .box g3 [.int .i64 48, .string (⟨#[]⟩ : ByteArray), .slice B27 l26.length d27] 107, .own (Zd.slice 107 q107) l26 [.slice B27 l26.length d27], .box g5 [.int .i64 ((rd_T107 a0 x28).f0), .string ((rd_T107 a0 x28).f1), .slice B33_2 (rd_T107 a0 x28).f2.length d33_2] 107, .own (Zd.slice 107 q107) t203001.f2 [.slice B203002 t203001.f2.length d203002]] := HS
     have F := HS.boxes; simp only [boxFacts, and_true] at F
     refine hK.out _ _ ⟨[], HS.arr [some 0, some 1, none, some 3] (by decide)⟩ (fun HH => ?_)
     clear hK K
     refine norm_ (a' := ?_) ?_ ?_
     rotate_left
     · show Act.put _ (some 16) _ = _; simp only [Act.put, List.setIfInBounds_toArray, List.set_cons_zero, List.set_cons_succ, i64_w, i32_w]; rfl
     refine dr_one 4 HT rfl (by kernel_rfl) (by decide) (fun K hK => ?_)
     refine if_wp (by rfl) ?_; refine wp_lit q107 [4] ([t203001] : List S107) ([.int .i64 t203001.f0, .string t203001.f1, .slice B203002 t203001.f2.length d203002] ++ []) HS (by first | (go_simp; done) | (go_simp; rfl)) rfl rfl (Nat.le_of_ble_eq_true rfl) (MadeL.cons (js1 := [4]) (c := [.int .i64 t203001.f0, .string t203001.f1, .slice B203002 t203001.f2.length d203002]) rfl (fun S hd hh => q107_pack (x := t203001) hd (hh 4 (.own (Zd.slice 107 q107) t203001.f2 [.slice B203002 t203001.f2.length d203002]) rfl) (by decide)) MadeL.nil (by decide)) ?_; clear HS; (try clear F); intro v204001 w204001 HS; obtain ⟨B204001, d204001, rfl, m204001⟩ := HS.formn 1 5 rfl rfl
     replace HS : Hp noFP w _ [.box g2 [.int .i64 0, .string (⟨#[]⟩ : ByteArray), .slice none 0 0] 107, .box g3 [.int .i64 48, .string (⟨#[]⟩ : ByteArray), .slice B27 l26.length d27] 107, .own (Zd.slice 107 q107) l26 [.slice B27 l26.length d27], .box g5 [.int .i64 ((rd_T107 a0 x28).f0), .string ((rd_T107 a0 x28).f1), .slice B33_2 (rd_T107 a0 x28).f2.length d33_2] 107, .emp, .own (Zd.slice 107 q107) ([t203001] : List S107) [.slice B204001 1 d204001]] := HS
     have F := HS.boxes; simp only [boxFacts, and_true] at F
     refine hK.out _ _ ⟨[], HS.arr [some 0, some 1, none, some 3] (by decide)⟩ (fun HH => ?_)
     clear hK K
     refine norm_ (a' := ?_) ?_ ?_
     rotate_left
     · show Act.put _ (some 17) _ = _; simp only [Act.put, List.setIfInBounds_toArray, List.set_cons_zero, List.set_cons_succ, i64_w, i32_w]; rfl
     refine dr_one 5 HT rfl (by kernel_rfl) (by decide) (fun K hK => ?_)
     refine if_wp (by rfl) ?_; refine wp_append q107 2 5 HS rfl rfl (by decide) rfl rfl rfl Try.underlying105 info107 rfl (by decide) (by decide) (by have := of_eq_true c205001; first | omega | (simp only [List.length_cons, List.length_nil, List.length_append, Nat.zero_add] at this ⊢; omega)) ?_; clear HS; (try clear F); intro v205002 w205002 HS; rw [← e_y205002.out] at HS; obtain ⟨B205002, d205002, rfl, m205002⟩ := HS.form 6 rfl
     replace HS : Hp noFP w _ [.box g2 [.int .i64 0, .string (⟨#[]⟩ : ByteArray), .slice none 0 0] 107, .box g3 [.int .i64 48, .string (⟨#[]⟩ : ByteArray), .slice B27 l26.length d27] 107, .emp, .box g5 [.int .i64 ((rd_T107 a0 x28).f0), .string ((rd_T107 a0 x28).f1), .slice B33_2 (rd_T107 a0 x28).f2.length d33_2] 107, .emp, .emp, .own (Zd.slice 107 q107) y205002 [.slice B205002 y205002.length d205002]] := HS
     have F := HS.boxes; simp only [boxFacts, and_true] at F
     refine hK.out _ _ ⟨[], HS.arr [some 0, some 1, none, some 3] (by decide)⟩ (fun HH => ?_)
     clear hK K
     refine norm_ (a' := ?_) ?_ ?_
     rotate_left
     · show Act.put _ (some 18) _ = _; simp only [Act.put, List.setIfInBounds_toArray, List.set_cons_zero, List.set_cons_succ, i64_w, i32_w]; rfl
     refine drq_of [(6, some 19)] ?_
     repeat (first | (refine drq_pure HT (v := ?_) (a' := ?_) rfl rfl (by kernel_rfl) (fun _ _ _ h => h) (.inl ⟨by rfl, ?_⟩) ?_ ?_; rotate_left; (intro w'; go_simp; with_reducible rfl); rotate_left; (simp only [Act.put, List.setIfInBounds_toArray, List.set_cons_zero, List.set_cons_succ, i64_w, i32_w]; rfl)))
     refine drq_end ?_
     refine dr_last 7 HT rfl (by kernel_rfl) (by decide) (fun K hK => ?_)
     refine if_wp (by rfl) ?_; refine wp_store 1 2 HS (seg := [.slice B205002 y205002.length d205002]) rfl rfl rfl rfl rfl rfl (by kernel_rfl) (by simp [wrt]) (by simp [Value.oneCell']) ?_; clear HS; (try clear F); intro w207001 HS
     replace HS : Hp noFP w _ [.box g2 [.int .i64 0, .string (⟨#[]⟩ : ByteArray), .slice none 0 0] 107, .box g3 [.int .i64 48, .string (⟨#[]⟩ : ByteArray), .slice B205002 y205002.length d205002] 107, .emp, .box g5 [.int .i64 ((rd_T107 a0 x28).f0), .string ((rd_T107 a0 x28).f1), .slice B33_2 (rd_T107 a0 x28).f2.length d33_2] 107, .emp, .emp, .own (Zd.slice 107 q107) y205002 [.slice B205002 y205002.length d205002]] := HS
     have F := HS.boxes; simp only [boxFacts, and_true] at F
     refine hK.out _ _ ?_
     clear hK K
     refine done_ (done_of HT.out (by kernel_rfl)) ?_
     go_wp2
     go_roundg k25
     case measure => have := HKk25.out; omega
     case rel => exact ⟨_, _, _, rfl, H, ⟨by have := HKk25.out; omega⟩, HS.pick [0, 1, 6] (by decide) (by rfl)⟩
   · replace H := zneg c30 H
     replace c30 := eq_false c30
     obtain rfl := zsome H
     go_wp2_with (first | ((with_reducible refine gate_store (p := 2) rfl ?_); refine ev_store rfl 0 0 HS (seg := [.int .i64 48, .string (⟨#[]⟩ : ByteArray), .slice B27 l26.length d27]) rfl rfl rfl rfl rfl rfl (by kernel_rfl) (by simp [wrt]) (by simp [Value.oneCell']) ?_; clear HS; (try clear F); intro w41 HS; replace HS : Hp noFP w _ [.box g2 [.int .i64 48, .string (⟨#[]⟩ : ByteArray), .slice B27 l26.length d27] 107, .box g3 [.int .i64 48, .string (⟨#[]⟩ : ByteArray), .slice B27 l26.length d27] 107, .own (Zd.slice 107 q107) l26 [.slice B27 l26.length d27]] := HS; have F := HS.boxes; simp only [boxFacts, and_true] at F))
     exact bodyPost_ret (results_single rfl (.cell _ _ _ _ _ rfl (HS.boxAt (i := 0) rfl) Try.underlying107 rfl (by kernel_rfl) .nil)) rfl ⟨_, rfl, HS.pick [2] (by decide) (by rfl)⟩
/-! ### impl_replyItem_1: function 126 -/
def impl_replyItem_1.f (k : Nat) (a0 : S171) : Option (S107) := ((impl_IntItem.f k a0.f0).bind fun t102001 => ((impl_IntItem.f k a0.f1).bind fun t105001 => ((impl_each_string_0.f k a0.f2).bind fun t108001 => ((impl_each_string_0.f k a0.f3).bind fun t111001 => ((impl_ListItem.f k ([t102001, t105001, t108001, t111001] : List S107)).bind fun t113001 => (some (⟨t113001.f0, t113001.f1, t113001.f2⟩ : S107)))))))
def impl_replyItem_1.T1 : Bool × List (List Nat × List Nat) := (true, [([], []), ([0], [0]), ([1], [1]), ([], []), ([3], [3]), ([4, 2], [4]), ([], []), ([6], [6]), ([7, 5], [7]), ([], []), ([9], [9]), ([10, 8], [10]), ([2, 5, 8, 11], [2, 5, 8, 11]), ([12, 11], [12]), ([13, 13, 0, 1, 2, 3, 4, 5, 6, 7, 8, 9, 10, 11, 12, 13], [13])])
theorem impl_replyItem_1.tT1 : rtab .any (opsOf Try.f126 1) = impl_replyItem_1.T1 := by kernel_rfl
set_option maxHeartbeats 16000000 in
theorem impl_replyItem_1.calls {k : Nat} {a0 : S171} {Ap0 : Option Addr} {np0 cp0 : Nat} {Ap1 : Option Addr} {np1 cp1 : Nat} {r : S107} {w : World} (h : impl_replyItem_1.f k a0 = some r) (gp0 : Kd.string.C w Ap0 np0 a0.f2) (lp0 : np0 ≤ cp0) (gp1 : Kd.string.C w Ap1 np1 a0.f3) (lp1 : np1 ≤ cp1) :
    Calls Try.prog 126 #[.agg #[.int .i64 a0.f0, .int .i64 a0.f1, .slice Ap0 np0 cp0, .slice Ap1 np1 cp1]] w (fun e w' => ∃ v0_ : Value, e = .returned (.agg #[.int .i64 r.f0, .string r.f1, v0_]) ∧ Hp noFP w w' [.own (Zd.slice 107 q107) r.f2 [v0_]]) := by
 obtain rfl := C_len gp0
 obtain rfl := C_len gp1
 have HS := Hp.start w
 have H := Aside0.mk h
 clear h
 unfold impl_replyItem_1.f at H
 go_enter Try.func126, Try.ntmps126
 go_wp2_with (first | ((with_reducible refine gate_dst (N := 1) rfl ?_); refine ev_box rfl HS (by first | (go_simp; done) | (go_simp; rfl)) rfl ?_; clear HS; (try clear F); intro g1 w1 HS; replace HS : Hp noFP w _ [.box g1 [.int .i64 a0.f0, .int .i64 a0.f1, .slice Ap0 a0.f2.length cp0, .slice Ap1 a0.f3.length cp1] 171] := HS; have F := HS.boxes; simp only [boxFacts, and_true] at F) | ((with_reducible refine gate_dst (N := 2) rfl ?_); refine ev_box rfl HS (by first | (go_simp; done) | (go_simp; rfl)) rfl ?_; clear HS; (try clear F); intro g2 w2 HS; replace HS : Hp noFP w _ [.box g1 [.int .i64 a0.f0, .int .i64 a0.f1, .slice Ap0 a0.f2.length cp0, .slice Ap1 a0.f3.length cp1] 171, .box g2 [.int .i64 0, .string (⟨#[]⟩ : ByteArray), .slice none 0 0] 107] := HS; have F := HS.boxes; simp only [boxFacts, and_true] at F))
 obtain ⟨t102001, ht102001, H⟩ := zbind H
 obtain ⟨t105001, ht105001, H⟩ := zbind H
 obtain ⟨t108001, ht108001, H⟩ := zbind H
 obtain ⟨t111001, ht111001, H⟩ := zbind H
 obtain ⟨t113001, ht113001, H⟩ := zbind H
 refine dr_start [14] HS #[false, false, false, false, false, false, false, false, false, false, false, false, false, false, false] (by kernel_rfl) rfl rfl impl_replyItem_1.tT1 (fun w6 HT HS HH => ?_)
 (try clear F)
 refine drq_of [(0, some 3), (1, some 4), (3, some 6), (4, some 7), (6, some 9), (7, some 10), (9, some 12), (10, some 13)] ?_
 repeat (first | (refine drq_pure HT (v := ?_) (a' := ?_) rfl rfl (by kernel_rfl) (fun _ _ _ h => h) (.inl ⟨by rfl, ?_⟩) ?_ ?_; rotate_left; (intro w'; go_simp; with_reducible rfl); rotate_left; (simp only [Act.put, List.setIfInBounds_toArray, List.set_cons_zero, List.set_cons_succ, i64_w, i32_w]; rfl)) | (refine drq_take HT HH (v := ?_) (a' := ?_) rfl rfl (by kernel_rfl) (fun _ _ _ h => h) (.inl ⟨by rfl, ?_⟩) ?_ ?_; rotate_left; (rintro w' ⟨rs', HS'⟩; have F := HS'.boxes; simp only [boxFacts, List.cons_append, List.nil_append, and_true] at F; go_simp; with_reducible rfl); rotate_left; (simp only [Act.put, List.setIfInBounds_toArray, List.set_cons_zero, List.set_cons_succ, i64_w, i32_w]; rfl)))
 refine drq_end ?_
 refine dr_one 2 HT rfl (by kernel_rfl) (by decide) (fun K hK => ?_)
 refine goes_ Try.func127 (by kernel_rfl) rfl #[.int .i64 a0.f0] (by rfl) rfl rfl (by simp only [List.map_toArray, List.map_cons, List.map_nil]; rfl) ?_; refine (impl_IntItem.calls ht102001.out).mono ?_; rintro _ wt102001 ⟨v102002, rfl, HQ⟩; refine ⟨_, rfl, ?_⟩; replace HS := HS.call HQ; clear HQ; (try clear F); obtain ⟨B102002, d102002, rfl, m102002⟩ := HS.form 2 rfl
 replace HS : Hp noFP w _ [.box g1 [.int .i64 a0.f0, .int .i64 a0.f1, .slice Ap0 a0.f2.length cp0, .slice Ap1 a0.f3.length cp1] 171, .box g2 [.int .i64 0, .string (⟨#[]⟩ : ByteArray), .slice none 0 0] 107, .own (Zd.slice 107 q107) t102001.f2 [.slice B102002 t102001.f2.length d102002]] := HS
 have F := HS.boxes; simp only [boxFacts, and_true] at F
 refine hK.out _ _ ⟨_, HS⟩ (fun HH => ?_)
 clear hK K
 refine norm_ (a' := ?_) ?_ ?_
 rotate_left
 · show Act.put _ (some 5) _ = _; simp only [Act.put, List.setIfInBounds_toArray, List.set_cons_zero, List.set_cons_succ, i64_w, i32_w]; rfl
 refine dr_one 5 HT rfl (by kernel_rfl) (by decide) (fun K hK => ?_)
 refine goes_ Try.func127 (by kernel_rfl) rfl #[.int .i64 a0.f1] (by rfl) rfl rfl (by simp only [List.map_toArray, List.map_cons, List.map_nil]; rfl) ?_; refine (impl_IntItem.calls ht105001.out).mono ?_; rintro _ wt105001 ⟨v105002, rfl, HQ⟩; refine ⟨_, rfl, ?_⟩; replace HS := HS.call HQ; clear HQ; (try clear F); obtain ⟨B105002, d105002, rfl, m105002⟩ := HS.form 3 rfl
 replace HS : Hp noFP w _ [.box g1 [.int .i64 a0.f0, .int .i64 a0.f1, .slice Ap0 a0.f2.length cp0, .slice Ap1 a0.f3.length cp1] 171, .box g2 [.int .i64 0, .string (⟨#[]⟩ : ByteArray), .slice none 0 0] 107, .own (Zd.slice 107 q107) t102001.f2 [.slice B102002 t102001.f2.length d102002], .own (Zd.slice 107 q107) t105001.f2 [.slice B105002 t105001.f2.length d105002]] := HS
 have F := HS.boxes; simp only [boxFacts, and_true] at F
 refine hK.out _ _ ⟨_, HS⟩ (fun HH => ?_)
 clear hK K
 refine norm_ (a' := ?_) ?_ ?_
 rotate_left
 · show Act.put _ (some 8) _ = _; simp only [Act.put, List.setIfInBounds_toArray, List.set_cons_zero, List.set_cons_succ, i64_w, i32_w]; rfl
 refine dr_one 8 HT rfl (by kernel_rfl) (by decide) (fun K hK => ?_)
 refine goes_ Try.func128 (by kernel_rfl) rfl #[.slice Ap0 a0.f2.length cp0, .func (.func 74) #[] #[]] (by rfl) rfl rfl (by simp only [List.map_toArray, List.map_cons, List.map_nil]; rfl) ?_; refine (impl_each_string_0.calls ht108001.out (HS.ro gp0) lp0).mono ?_; rintro _ wt108001 ⟨v108002, rfl, HQ⟩; refine ⟨_, rfl, ?_⟩; replace HS := HS.call HQ; clear HQ; (try clear F); obtain ⟨B108002, d108002, rfl, m108002⟩ := HS.form 4 rfl
 replace HS : Hp noFP w _ [.box g1 [.int .i64 a0.f0, .int .i64 a0.f1, .slice Ap0 a0.f2.length cp0, .slice Ap1 a0.f3.length cp1] 171, .box g2 [.int .i64 0, .string (⟨#[]⟩ : ByteArray), .slice none 0 0] 107, .own (Zd.slice 107 q107) t102001.f2 [.slice B102002 t102001.f2.length d102002], .own (Zd.slice 107 q107) t105001.f2 [.slice B105002 t105001.f2.length d105002], .own (Zd.slice 107 q107) t108001.f2 [.slice B108002 t108001.f2.length d108002]] := HS
 have F := HS.boxes; simp only [boxFacts, and_true] at F
 refine hK.out _ _ ⟨_, HS⟩ (fun HH => ?_)
 clear hK K
 refine norm_ (a' := ?_) ?_ ?_
 rotate_left
 · show Act.put _ (some 11) _ = _; simp only [Act.put, List.setIfInBounds_toArray, List.set_cons_zero, List.set_cons_succ, i64_w, i32_w]; rfl
 refine dr_one 11 HT rfl (by kernel_rfl) (by decide) (fun K hK => ?_)
 refine goes_ Try.func128 (by kernel_rfl) rfl #[.slice Ap1 a0.f3.length cp1, .func (.func 74) #[] #[]] (by rfl) rfl rfl (by simp only [List.map_toArray, List.map_cons, List.map_nil]; rfl) ?_; refine (impl_each_string_0.calls ht111001.out (HS.ro gp1) lp1).mono ?_; rintro _ wt111001 ⟨v111002, rfl, HQ⟩; refine ⟨_, rfl, ?_⟩; replace HS := HS.call HQ; clear HQ; (try clear F); obtain ⟨B111002, d111002, rfl, m111002⟩ := HS.form 5 rfl
 replace HS : Hp noFP w _ [.box g1 [.int .i64 a0.f0, .int .i64 a0.f1, .slice Ap0 a0.f2.length cp0, .slice Ap1 a0.f3.length cp1] 171, .box g2 [.int .i64 0, .string (⟨#[]⟩ : ByteArray), .slice none 0 0] 107, .own (Zd.slice 107 q107) t102001.f2 [.slice B102002 t102001.f2.length d102002], .own (Zd.slice 107 q107) t105001.f2 [.slice B105002 t105001.f2.length d105002], .own (Zd.slice 107 q107) t108001.f2 [.slice B108002 t108001.f2.length d108002], .own (Zd.slice 107 q107) t111001.f2 [.slice B111002 t111001.f2.length d111002]] := HS
 have F := HS.boxes; simp only [boxFacts, and_true] at F
 refine hK.out _ _ ⟨_, HS⟩ (fun HH => ?_)
 clear hK K
 refine norm_ (a' := ?_) ?_ ?_
 rotate_left
 · show Act.put _ (some 14) _ = _; simp only [Act.put, List.setIfInBounds_toArray, List.set_cons_zero, List.set_cons_succ, i64_w, i32_w]; rfl
 refine dr_one 12 HT rfl (by kernel_rfl) (by decide) (fun K hK => ?_)
 refine if_wp (by rfl) ?_; refine wp_lit q107 [2, 3, 4, 5] ([t102001, t105001, t108001, t111001] : List S107) ([.int .i64 t102001.f0, .string t102001.f1, .slice B102002 t102001.f2.length d102002] ++ ([.int .i64 t105001.f0, .string t105001.f1, .slice B105002 t105001.f2.length d105002] ++ ([.int .i64 t108001.f0, .string t108001.f1, .slice B108002 t108001.f2.length d108002] ++ ([.int .i64 t111001.f0, .string t111001.f1, .slice B111002 t111001.f2.length d111002] ++ [])))) HS (by first | (go_simp; done) | (go_simp; rfl)) rfl rfl (Nat.le_of_ble_eq_true rfl) (MadeL.cons (js1 := [2]) (c := [.int .i64 t102001.f0, .string t102001.f1, .slice B102002 t102001.f2.length d102002]) rfl (fun S hd hh => q107_pack (x := t102001) hd (hh 2 (.own (Zd.slice 107 q107) t102001.f2 [.slice B102002 t102001.f2.length d102002]) rfl) (by decide)) (MadeL.cons (js1 := [3]) (c := [.int .i64 t105001.f0, .string t105001.f1, .slice B105002 t105001.f2.length d105002]) rfl (fun S hd hh => q107_pack (x := t105001) hd (hh 3 (.own (Zd.slice 107 q107) t105001.f2 [.slice B105002 t105001.f2.length d105002]) rfl) (by decide)) (MadeL.cons (js1 := [4]) (c := [.int .i64 t108001.f0, .string t108001.f1, .slice B108002 t108001.f2.length d108002]) rfl (fun S hd hh => q107_pack (x := t108001) hd (hh 4 (.own (Zd.slice 107 q107) t108001.f2 [.slice B108002 t108001.f2.length d108002]) rfl) (by decide)) (MadeL.cons (js1 := [5]) (c := [.int .i64 t111001.f0, .string t111001.f1, .slice B111002 t111001.f2.length d111002]) rfl (fun S hd hh => q107_pack (x := t111001) hd (hh 5 (.own (Zd.slice 107 q107) t111001.f2 [.slice B111002 t111001.f2.length d111002]) rfl) (by decide)) MadeL.nil (by decide)) (by decide)) (by decide)) (by decide)) ?_; clear HS; (try clear F); intro v112001 w112001 HS; obtain ⟨B112001, d112001, rfl, m112001⟩ := HS.formn 4 6 rfl rfl
 replace HS : Hp noFP w _ [.box g1 [.int .i64 a0.f0, .int .i64 a0.f1, .slice Ap0 a0.f2.length cp0, .slice Ap1 a0.f3.length cp1] 171, .box g2 [.int .i64 0, .string (⟨#[]⟩ : ByteArray), .slice none 0 0] 107, .emp, .emp, .emp, .emp, .own (Zd.slice 107 q107) ([t102001, t105001, t108001, t111001] : List S107) [.slice B112001 4 d112001]] := HS
 have F := HS.boxes; simp only [boxFacts, and_true] at F
 refine hK.out _ _ ⟨_, HS⟩ (fun HH => ?_)
 clear hK K
 refine norm_ (a' := ?_) ?_ ?_
 rotate_left
 · show Act.put _ (some 15) _ = _; simp only [Act.put, List.setIfInBounds_toArray, List.set_cons_zero, List.set_cons_succ, i64_w, i32_w]; rfl
 refine dr_one 13 HT rfl (by kernel_rfl) (by decide) (fun K hK => ?_)
 refine goes_ Try.func73 (by kernel_rfl) rfl #[.slice B112001 4 d112001] (by rfl) rfl rfl (by simp only [List.map_toArray, List.map_cons, List.map_nil]; rfl) ?_; refine (impl_ListItem.calls ht113001.out (HS.rd 6 rfl) m112001).mono ?_; rintro _ wt113001 ⟨v113002, rfl, HQ⟩; refine ⟨_, rfl, ?_⟩; replace HS := HS.call HQ; clear HQ; (try clear F); obtain ⟨B113002, d113002, rfl, m113002⟩ := HS.form 7 rfl
 replace HS : Hp noFP w _ [.box g1 [.int .i64 a0.f0, .int .i64 a0.f1, .slice Ap0 a0.f2.length cp0, .slice Ap1 a0.f3.length cp1] 171, .box g2 [.int .i64 0, .string (⟨#[]⟩ : ByteArray), .slice none 0 0] 107, .emp, .emp, .emp, .emp, .own (Zd.slice 107 q107) ([t102001, t105001, t108001, t111001] : List S107) [.slice B112001 4 d112001], .own (Zd.slice 107 q107) t113001.f2 [.slice B113002 t113001.f2.length d113002]] := HS
 have F := HS.boxes; simp only [boxFacts, and_true] at F
 refine hK.out _ _ ⟨_, HS⟩ (fun HH => ?_)
 clear hK K
 refine norm_ (a' := ?_) ?_ ?_
 rotate_left
 · show Act.put _ (some 16) _ = _; simp only [Act.put, List.setIfInBounds_toArray, List.set_cons_zero, List.set_cons_succ, i64_w, i32_w]; rfl
 refine dr_last 14 HT rfl (by kernel_rfl) (by decide) (fun K hK => ?_)
 refine if_wp (by rfl) ?_; refine wp_store 1 0 HS (seg := [.int .i64 t113001.f0, .string t113001.f1, .slice B113002 t113001.f2.length d113002]) rfl rfl rfl rfl rfl rfl (by kernel_rfl) (by simp [wrt]) (by simp [Value.oneCell']) ?_; clear HS; (try clear F); intro w114001 HS
 replace HS : Hp noFP w _ [.box g1 [.int .i64 a0.f0, .int .i64 a0.f1, .slice Ap0 a0.f2.length cp0, .slice Ap1 a0.f3.length cp1] 171, .box g2 [.int .i64 t113001.f0, .string t113001.f1, .slice B113002 t113001.f2.length d113002] 107, .emp, .emp, .emp, .emp, .own (Zd.slice 107 q107) ([t102001, t105001, t108001, t111001] : List S107) [.slice B112001 4 d112001], .own (Zd.slice 107 q107) t113001.f2 [.slice B113002 t113001.f2.length d113002]] := HS
 have F := HS.boxes; simp only [boxFacts, and_true] at F
 refine hK.out _ _ ?_
 clear hK K
 refine done_ (done_of HT.out (by kernel_rfl)) ?_
 obtain rfl := zsome H
 go_wp2
 exact bodyPost_ret (results_single rfl (.cell _ _ _ _ _ rfl (HS.boxAt (i := 1) rfl) Try.underlying107 rfl (by kernel_rfl) .nil)) rfl ⟨_, rfl, HS.pick [7] (by decide) (by rfl)⟩
/-! ### impl_Answer_129_0: function 129 -/
def impl_Answer_129_0.l0 : Nat → (List S107) → Int → (List S171) → Option (S107)
  | 0, _, _, _ => none
  | k + 1, l26, x28, a0 => (if x28 < (a0.length : Int) then (if 0 ≤ x28 then (if x28 < (a0.length : Int) then ((impl_replyItem_1.f k (rd_T171 a0 x28)).bind fun t204001 => (if l26.length + 1 ≤ 2932031007402 then (lets (l26 ++ ([t204001] : List S107)) fun y206002 => (impl_Answer_129_0.l0 k y206002 (wrap64 (x28 + 1)) a0)) else none)) else none) else none) else (some (⟨48, (⟨#[]⟩ : ByteArray), l26⟩ : S107)))
def impl_Answer_129_0.f (k : Nat) (a0 : (List S171)) : Option (S107) := (impl_Answer_129_0.l0 k [] 0 a0)
def impl_Answer_129_0.T5 : Bool × List (List Nat × List Nat) := (true, [([], []), ([0], [0]), ([], []), ([], []), ([2, 3], [2, 3]), ([4], [4]), ([1, 5, 4], [1, 5]), ([0, 1, 2, 3, 4, 5, 6], []), ([7, 6, 6, 0, 1, 2, 3, 4, 5, 6], [6, 7])])
theorem impl_Answer_129_0.tT5 : rtab .any (opsOf Try.f129 5) = impl_Answer_129_0.T5 := by kernel_rfl
set_option maxHeartbeats 16000000 in
theorem impl_Answer_129_0.calls {k : Nat} {a0 : (List S171)} {Ap0 : Option Addr} {np0 cp0 : Nat} {r : S107} {w : World} (h : impl_Answer_129_0.f k a0 = some r) (gp0 : k171.C w Ap0 np0 a0) (lp0 : np0 ≤ cp0) :
    Calls Try.prog 129 #[.slice Ap0 np0 cp0, .func (.func 126) #[] #[]] w (fun e w' => ∃ v0_ : Value, e = .returned (.agg #[.int .i64 r.f0, .string r.f1, v0_]) ∧ Hp noFP w w' [.own (Zd.slice 107 q107) r.f2 [v0_]]) := by
 obtain rfl := C_len gp0
 have HS := Hp.start w
 have H := Aside0.mk h
 clear h
 unfold impl_Answer_129_0.f at H
 go_enter Try.func129, Try.ntmps129
 go_wp2_with (first | ((with_reducible refine gate_dst (N := 4) rfl ?_); refine ev_box rfl HS (by first | (go_simp; done) | (go_simp; rfl)) rfl ?_; clear HS; (try clear F); intro g4 w4 HS; replace HS : Hp noFP w _ [.box g4 [.int .i64 0, .string (⟨#[]⟩ : ByteArray), .slice none 0 0] 107] := HS; have F := HS.boxes; simp only [boxFacts, and_true] at F) | ((with_reducible refine gate_dst (N := 5) rfl ?_); refine ev_box rfl HS (by first | (go_simp; done) | (go_simp; rfl)) rfl ?_; clear HS; (try clear F); intro g5 w5 HS; replace HS : Hp noFP w _ [.box g4 [.int .i64 0, .string (⟨#[]⟩ : ByteArray), .slice none 0 0] 107, .box g5 [.int .i64 0, .string (⟨#[]⟩ : ByteArray), .slice none 0 0] 107] := HS; have F := HS.boxes; simp only [boxFacts, and_true] at F) | ((with_reducible refine gate_store (p := 5) rfl ?_); refine ev_store rfl 1 0 HS (seg := [.int .i64 48, .string (⟨#[]⟩ : ByteArray), .slice none 0 0]) rfl rfl rfl rfl rfl rfl (by kernel_rfl) (by simp [wrt]) (by simp [Value.oneCell']) ?_; clear HS; (try clear F); intro w5 HS; replace HS : Hp noFP w _ [.box g4 [.int .i64 0, .string (⟨#[]⟩ : ByteArray), .slice none 0 0] 107, .box g5 [.int .i64 48, .string (⟨#[]⟩ : ByteArray), .slice none 0 0] 107] := HS; have F := HS.boxes; simp only [boxFacts, and_true] at F))
 replace HS := HS.nil 107 q107
 go_loopg [11] k (fun kq v_11 w' => ∃ (l26 : List S107) (v27 : Value) (x28 : Int), v_11 = .int .i64 x28 ∧ Aside0 (impl_Answer_129_0.l0 kq l26 x28 a0 = some r) ∧ Aside0 (kq ≤ k) ∧ Hp noFP w w' [.box g4 [.int .i64 0, .string (⟨#[]⟩ : ByteArray), .slice none 0 0] 107, .box g5 [.int .i64 48, .string (⟨#[]⟩ : ByteArray), v27] 107, .own (Zd.slice 107 q107) l26 [v27]])
 case atStart => exact ⟨_, _, _, rfl, H, ⟨Nat.le_refl _⟩, HS⟩
 case round =>
  clear HS H; (try clear F)
  obtain ⟨l26, v27, x28, rfl, H, HKk25, HS⟩ := hrel
  obtain ⟨B27, d27, rfl, m27⟩ := HS.form 2 rfl
  have F := HS.boxes; simp only [boxFacts, and_true] at F
  cases gk with
  | zero => exact absurd H.out (by simp [impl_Answer_129_0.l0])
  | succ k25 =>
   simp only [impl_Answer_129_0.l0] at H
   by_cases c30 : x28 < (a0.length : Int)
   · replace H := zpos c30 H
     replace c30 := eq_true c30
     by_cases c31 : 0 ≤ x28
     case neg => exact zno c31 H
     replace H := zpos c31 H
     replace c31 := eq_true c31
     by_cases c32 : x28 < (a0.length : Int)
     case neg => exact zno c32 H
     replace H := zpos c32 H
     replace c32 := eq_true c32
     obtain ⟨ad33, B33_2, d33_2, B33_3, d33_3, rfl, e33_0, e33_1, e33_2, e33_3, m33_2, y33_2, m33_3, y33_3⟩ := at_T171 gp0 x28 (of_eq_true c31) (of_eq_true c32)
     have e33_0_33 := HS.keepc e33_0
     have e33_1_33 := HS.keepc e33_1
     have e33_2_33 := HS.keepc e33_2
     have e33_3_33 := HS.keepc e33_3
     go_wp2_with (first | ((with_reducible refine gate_dst (N := 7) rfl ?_); refine ev_box rfl HS (by first | (go_simp; done) | (go_simp; rfl)) rfl ?_; clear HS; (try clear F); intro g7 w7 HS; replace HS : Hp noFP w _ [.box g4 [.int .i64 0, .string (⟨#[]⟩ : ByteArray), .slice none 0 0] 107, .box g5 [.int .i64 48, .string (⟨#[]⟩ : ByteArray), .slice B27 l26.length d27] 107, .own (Zd.slice 107 q107) l26 [.slice B27 l26.length d27], .box g7 [.int .i64 0, .int .i64 0, .slice none 0 0, .slice none 0 0] 171] := HS; have F := HS.boxes; simp only [boxFacts, and_true] at F) | ((with_reducible refine gate_store (p := 7) rfl ?_); refine ev_store rfl 3 0 HS (seg := [.int .i64 ((rd_T171 a0 x28).f0), .int .i64 ((rd_T171 a0 x28).f1), .slice B33_2 (rd_T171 a0 x28).f2.length d33_2, .slice B33_3 (rd_T171 a0 x28).f3.length d33_3]) rfl rfl rfl rfl rfl rfl (by kernel_rfl) (by simp [wrt]) (by simp [Value.oneCell']) ?_; clear HS; (try clear F); intro w36 HS; replace HS : Hp noFP w _ [.box g4 [.int .i64 0, .string (⟨#[]⟩ : ByteArray), .slice none 0 0] 107, .box g5 [.int .i64 48, .string (⟨#[]⟩ : ByteArray), .slice B27 l26.length d27] 107, .own (Zd.slice 107 q107) l26 [.slice B27 l26.length d27], .box g7 [.int .i64 ((rd_T171 a0 x28).f0), .int .i64 ((rd_T171 a0 x28).f1), .slice B33_2 (rd_T171 a0 x28).f2.length d33_2, .slice B33_3 (rd_T171 a0 x28).f3.length d33_3] 171] := HS; have F := HS.boxes; simp only [boxFacts, and_true] at F))
     obtain ⟨t204001, ht204001, H⟩ := zbind H
     by_cases c206001 : l26.length + 1 ≤ 2932031007402
     case neg => exact zno c206001 H
     replace H := zpos c206001 H
     replace c206001 := eq_true c206001
     obtain ⟨y206002, e_y206002, H⟩ := zlets H
     refine dr_start2 [.box g4 [.int .i64 0, .string (⟨#[]⟩ : ByteArray), .slice none 0 0] 107, .box g5 [.int .i64 48, .string (⟨#[]⟩ : ByteArray), .slice B27 l26.length d27] 107, .emp, .box g7 [.int .i64 ((rd_T171 a0 x28).f0), .int .i64 ((rd_T171 a0 x28).f1), .slice B33_2 (rd_T171 a0 x28).f2.length d33_2, .slice B33_3 (rd_T171 a0 x28).f3.length d33_3] 171] [8] HS (HS.arr [some 0, some 1, none, some 3] (by decide)) #[false, false, false, false, false, false, false, false, false] (by kernel_rfl) rfl rfl impl_Answer_129_0.tT5 (fun w39 HT HS HH => ?_)
     (try clear F)
     refine drq_of [(0, some 15), (1, some 16), (2, some 17), (3, some 18)] ?_
     repeat (first | (refine drq_pure HT (v := ?_) (a' := ?_) rfl rfl (by kernel_rfl) (fun _ _ _ h => h) (.inl ⟨by rfl, ?_⟩) ?_ ?_; rotate_left; (intro w'; go_simp; with_reducible rfl); rotate_left; (simp only [Act.put, List.setIfInBounds_toArray, List.set_cons_zero, List.set_cons_succ, i64_w, i32_w]; rfl)) | (refine drq_take HT HH (v := ?_) (a' := ?_) rfl rfl (by kernel_rfl) (fun _ _ _ h => h) (.inl ⟨by rfl, ?_⟩) ?_ ?_; rotate_left; (rintro w' ⟨rs', HS'⟩; have F := HS'.boxes; simp only [boxFacts, List.cons_append, List.nil_append, and_true] at F; go_simp; with_reducible rfl); rotate_left; (simp only [Act.put, List.setIfInBounds_toArray, List.set_cons_zero, List.set_cons_succ, i64_w, i32_w]; rfl)))
     refine drq_end ?_
     refine dr_one 4 HT rfl (by kernel_rfl) (by decide) (fun K hK => ?_)
     refine if_wp (by rfl) ?_; refine wp_callv Try.func126 (by kernel_rfl) rfl #[.agg #[.int .i64 ((rd_T171 a0 x28).f0), .int .i64 ((rd_T171 a0 x28).f1), .slice B33_2 (rd_T171 a0 x28).f2.length d33_2, .slice B33_3 (rd_T171 a0 x28).f3.length d33_3]] #[.agg #[.int .i64 ((rd_T171 a0 x28).f0), .int .i64 ((rd_T171 a0 x28).f1), .slice B33_2 (rd_T171 a0 x28).f2.length d33_2, .slice B33_3 (rd_T171 a0 x28).f3.length d33_3]] rfl rfl (by simp only [List.map_toArray, List.map_cons, List.map_nil]; rfl) (by first | rfl | simp) ?_; refine (impl_replyItem_1.calls ht204001.out (HS.ro y33_2) m33_2 (HS.ro y33_3) m33_3).mono ?_; rintro _ wt204001 ⟨v204002, rfl, HQ⟩; refine ⟨_, rfl, ?_⟩; replace HS := HS.call HQ; clear HQ; (try clear F); obtain ⟨B204002, d204002, rfl, m204002⟩ := HS.form 4 rfl
     replace HS : Hp noFP w _ [.box g4 [.int .i64 0, .string (⟨#[]⟩ : ByteArray), .slice none 0 0] 107, .box g5 [.int .i64 48, .string (⟨#[]⟩ : ByteArray), .slice B27 l26.length d27] 107, .own (Zd.slice 107 q107) l26 [.slice B27 l26.length d27], .box g7 [.int .i64 ((rd_T171 a0 x28).f0), .int .i64 ((rd_T171 a0 x28).f1), .slice B33_2 (rd_T171 a0 x28).f2.length d33_2, .slice B33_3 (rd_T171 a0 x28).f3.length d33_3] 171, .own (Zd.slice 107 q107) t204001.f2 [.slice B204002 t204001.f2.length d204002]] := HS
     have F := HS.boxes; simp only [boxFacts, and_true] at F
     refine hK.out _ _ ⟨[], HS.arr [some 0, some 1, none, some 3] (by decide)⟩ (fun HH => ?_)
     clear hK K
     refine norm_ (a' := ?_) ?_ ?_
     rotate_left
     · show Act.put _ (some 19) _ = _; simp only [Act.put, List.setIfInBounds_toArray, List.set_cons_zero, List.set_cons_succ, i64_w, i32_w]; rfl
     refine dr_one 5 HT rfl (by kernel_rfl) (by decide) (fun K hK => ?_)
     refine if_wp (by rfl) ?_; refine wp_lit q107 [4] ([t204001] : List S107) ([.int .i64 t204001.f0, .string t204001.f1, .slice B204002 t204001.f2.length d204002] ++ []) HS (by first | (go_simp; done) | (go_simp; rfl)) rfl rfl (Nat.le_of_ble_eq_true rfl) (MadeL.cons (js1 := [4]) (c := [.int .i64 t204001.f0, .string t204001.f1, .slice B204002 t204001.f2.length d204002]) rfl (fun S hd hh => q107_pack (x := t204001) hd (hh 4 (.own (Zd.slice 107 q107) t204001.f2 [.slice B204002 t204001.f2.length d204002]) rfl) (by decide)) MadeL.nil (by decide)) ?_; clear HS; (try clear F); intro v205001 w205001 HS; obtain ⟨B205001, d205001, rfl, m205001⟩ := HS.formn 1 5 rfl rfl
     replace HS : Hp noFP w _ [.box g4 [.int .i64 0, .string (⟨#[]⟩ : ByteArray), .slice none 0 0] 107, .box g5 [.int .i64 48, .string (⟨#[]⟩ : ByteArray), .slice B27 l26.length d27] 107, .own (Zd.slice 107 q107) l26 [.slice B27 l26.length d27], .box g7 [.int .i64 ((rd_T171 a0 x28).f0), .int .i64 ((rd_T171 a0 x28).f1), .slice B33_2 (rd_T171 a0 x28).f2.length d33_2, .slice B33_3 (rd_T171 a0 x28).f3.length d33_3] 171, .emp, .own (Zd.slice 107 q107) ([t204001] : List S107) [.slice B205001 1 d205001]] := HS
     have F := HS.boxes; simp only [boxFacts, and_true] at F
     refine hK.out _ _ ⟨[], HS.arr [some 0, some 1, none, some 3] (by decide)⟩ (fun HH => ?_)
     clear hK K
     refine norm_ (a' := ?_) ?_ ?_
     rotate_left
     · show Act.put _ (some 20) _ = _; simp only [Act.put, List.setIfInBounds_toArray, List.set_cons_zero, List.set_cons_succ, i64_w, i32_w]; rfl
     refine dr_one 6 HT rfl (by kernel_rfl) (by decide) (fun K hK => ?_)
     refine if_wp (by rfl) ?_; refine wp_append q107 2 5 HS rfl rfl (by decide) rfl rfl rfl Try.underlying105 info107 rfl (by decide) (by decide) (by have := of_eq_true c206001; first | omega | (simp only [List.length_cons, List.length_nil, List.length_append, Nat.zero_add] at this ⊢; omega)) ?_; clear HS; (try clear F); intro v206002 w206002 HS; rw [← e_y206002.out] at HS; obtain ⟨B206002, d206002, rfl, m206002⟩ := HS.form 6 rfl
     replace HS : Hp noFP w _ [.box g4 [.int .i64 0, .string (⟨#[]⟩ : ByteArray), .slice none 0 0] 107, .box g5 [.int .i64 48, .string (⟨#[]⟩ : ByteArray), .slice B27 l26.length d27] 107, .emp, .box g7 [.int .i64 ((rd_T171 a0 x28).f0), .int .i64 ((rd_T171 a0 x28).f1), .slice B33_2 (rd_T171 a0 x28).f2.length d33_2, .slice B33_3 (rd_T171 a0 x28).f3.length d33_3] 171, .emp, .emp, .own (Zd.slice 107 q107) y206002 [.slice B206002 y206002.length d206002]] := HS
     have F := HS.boxes; simp only [boxFacts, and_true] at F
     refine hK.out _ _ ⟨[], HS.arr [some 0, some 1, none, some 3] (by decide)⟩ (fun HH => ?_)
     clear hK K
     refine norm_ (a' := ?_) ?_ ?_
     rotate_left
     · show Act.put _ (some 21) _ = _; simp only [Act.put, List.setIfInBounds_toArray, List.set_cons_zero, List.set_cons_succ, i64_w, i32_w]; rfl
     refine drq_of [(7, some 22)] ?_
     repeat (first | (refine drq_pure HT (v := ?_) (a' := ?_) rfl rfl (by kernel_rfl) (fun _ _ _ h => h) (.inl ⟨by rfl, ?_⟩) ?_ ?_; rotate_left; (intro w'; go_simp; with_reducible rfl); rotate_left; (simp only [Act.put, List.setIfInBounds_toArray, List.set_cons_zero, List.set_cons_succ, i64_w, i32_w]; rfl)))
     refine drq_end ?_
     refine dr_last 8 HT rfl (by kernel_rfl) (by decide) (fun K hK => ?_)
     refine if_wp (by rfl) ?_; refine wp_store 1 2 HS (seg := [.slice B206002 y206002.length d206002]) rfl rfl rfl rfl rfl rfl (by kernel_rfl) (by simp [wrt]) (by simp [Value.oneCell']) ?_; clear HS; (try clear F); intro w208001 HS
     replace HS : Hp noFP w _ [.box g4 [.int .i64 0, .string (⟨#[]⟩ : ByteArray), .slice none 0 0] 107, .box g5 [.int .i64 48, .string (⟨#[]⟩ : ByteArray), .slice B206002 y206002.length d206002] 107, .emp, .box g7 [.int .i64 ((rd_T171 a0 x28).f0), .int .i64 ((rd_T171 a0 x28).f1), .slice B33_2 (rd_T171 a0 x28).f2.length d33_2, .slice B33_3 (rd_T171 a0 x28).f3.length d33_3] 171, .emp, .emp, .own (Zd.slice 107 q107) y206002 [.slice B206002 y206002.length d206002]] := HS
     have F := HS.boxes; simp only [boxFacts, and_true] at F
     refine hK.out _ _ ?_
     clear hK K
     refine done_ (done_of HT.out (by kernel_rfl)) ?_
     go_wp2
     go_roundg k25
     case measure => have := HKk25.out; omega
     case rel => exact ⟨_, _, _, rfl, H, ⟨by have := HKk25.out; omega⟩, HS.pick [0, 1, 6] (by decide) (by rfl)⟩
   · replace H := zneg c30 H
     replace c30 := eq_false c30
     obtain rfl := zsome H
     go_wp2_with (first | ((with_reducible refine gate_store (p := 4) rfl ?_); refine ev_store rfl 0 0 HS (seg := [.int .i64 48, .string (⟨#[]⟩ : ByteArray), .slice B27 l26.length d27]) rfl rfl rfl rfl rfl rfl (by kernel_rfl) (by simp [wrt]) (by simp [Value.oneCell']) ?_; clear HS; (try clear F); intro w41 HS; replace HS : Hp noFP w _ [.box g4 [.int .i64 48, .string (⟨#[]⟩ : ByteArray), .slice B27 l26.length d27] 107, .box g5 [.int .i64 48, .string (⟨#[]⟩ : ByteArray), .slice B27 l26.length d27] 107, .own (Zd.slice 107 q107) l26 [.slice B27 l26.length d27]] := HS; have F := HS.boxes; simp only [boxFacts, and_true] at F))
     exact bodyPost_ret (results_single rfl (.cell _ _ _ _ _ rfl (HS.boxAt (i := 0) rfl) Try.underlying107 rfl (by kernel_rfl) .nil)) rfl ⟨_, rfl, HS.pick [2] (by decide) (by rfl)⟩
/-! ### impl_replyItem: function 68 -/
def impl_replyItem.f (k : Nat) (a0 : S49) : Option (S107) := ((impl_bytesItem.f a0.f0).bind fun t102001 => ((impl_IntItem.f k a0.f1).bind fun t105001 => ((impl_IntItem.f k a0.f2).bind fun t108001 => ((impl_IntItem.f k a0.f3).bind fun t111001 => ((impl_IntItem.f k a0.f4).bind fun t114001 => ((impl_IntItem.f k a0.f5).bind fun t117001 => ((impl_Answer_129_0.f k a0.f6).bind fun t121001 => ((impl_ListItem.f k ([t102001, t105001, t108001, t111001, t114001, t117001, t121001] : List S107)).bind fun t123001 => (some (⟨t123001.f0, t123001.f1, t123001.f2⟩ : S107))))))))))
def impl_replyItem.T2 : Bool × List (List Nat × List Nat) := (true, [([], []), ([0], [0]), ([1], [1]), ([], []), ([3], [3]), ([4, 2], [4]), ([], []), ([6], [6]), ([7, 5], [7]), ([], []), ([9], [9]), ([10, 8], [10]), ([], []), ([12], [12]), ([13, 11], [13]), ([], []), ([15], [15]), ([16, 14], [16]), ([], []), ([18], [18]), ([], []), ([19, 20, 17], [19, 20]), ([2, 5, 8, 11, 14, 17, 21], [2, 5, 8, 11, 14, 17, 21]), ([22, 21], [22]), ([23, 23, 0, 1, 2, 3, 4, 5, 6, 7, 8, 9, 10, 11, 12, 13, 14, 15, 16, 17, 18, 19, 20, 21, 22, 23], [23])])
theorem impl_replyItem.tT2 : rtab .any (opsOf Try.f68 2) = impl_replyItem.T2 := by kernel_rfl
set_option maxHeartbeats 16000000 in
theorem impl_replyItem.calls {k : Nat} {a0 : S49} {Ap0 : Option Addr} {np0 cp0 : Nat} {r : S107} {w : World} (h : impl_replyItem.f k a0 = some r) (gp0 : k171.C w Ap0 np0 a0.f6) (lp0 : np0 ≤ cp0) :
    Calls Try.prog 68 #[.agg #[.string a0.f0, .int .i64 a0.f1, .int .i64 a0.f2, .int .i64 a0.f3, .int .i64 a0.f4, .int .i64 a0.f5, .slice Ap0 np0 cp0, .string a0.f7]] w (fun e w' => ∃ v0_ : Value, e = .returned (.agg #[.int .i64 r.f0, .string r.f1, v0_]) ∧ Hp noFP w w' [.own (Zd.slice 107 q107) r.f2 [v0_]]) := by
 obtain rfl := C_len gp0
 have HS := Hp.start w
 have H := Aside0.mk h
 clear h
 unfold impl_replyItem.f at H
 go_enter Try.func68, Try.ntmps68
 go_wp2_with (first | ((with_reducible refine gate_dst (N := 1) rfl ?_); refine ev_box rfl HS (by first | (go_simp; done) | (go_simp; rfl)) rfl ?_; clear HS; (try clear F); intro g1 w1 HS; replace HS : Hp noFP w _ [.box g1 [.string a0.f0, .int .i64 a0.f1, .int .i64 a0.f2, .int .i64 a0.f3, .int .i64 a0.f4, .int .i64 a0.f5, .slice Ap0 a0.f6.length cp0, .string a0.f7] 49] := HS; have F := HS.boxes; simp only [boxFacts, and_true] at F) | ((with_reducible refine gate_dst (N := 2) rfl ?_); refine ev_box rfl HS (by first | (go_simp; done) | (go_simp; rfl)) rfl ?_; clear HS; (try clear F); intro g2 w2 HS; replace HS : Hp noFP w _ [.box g1 [.string a0.f0, .int .i64 a0.f1, .int .i64 a0.f2, .int .i64 a0.f3, .int .i64 a0.f4, .int .i64 a0.f5, .slice Ap0 a0.f6.length cp0, .string a0.f7] 49, .box g2 [.int .i64 0, .string (⟨#[]⟩ : ByteArray), .slice none 0 0] 107] := HS; have F := HS.boxes; simp only [boxFacts, and_true] at F))
 obtain ⟨t102001, ht102001, H⟩ := zbind H
 obtain ⟨t105001, ht105001, H⟩ := zbind H
 obtain ⟨t108001, ht108001, H⟩ := zbind H
 obtain ⟨t111001, ht111001, H⟩ := zbind H
 obtain ⟨t114001, ht114001, H⟩ := zbind H
 obtain ⟨t117001, ht117001, H⟩ := zbind H
 obtain ⟨t121001, ht121001, H⟩ := zbind H
 obtain ⟨t123001, ht123001, H⟩ := zbind H
 refine dr_start [24] HS #[false, false, false, false, false, false, false, false, false, false, false, false, false, false, false, false, false, false, false, false, false, false, false, false, false] (by kernel_rfl) rfl rfl impl_replyItem.tT2 (fun w6 HT HS HH => ?_)
 (try clear F)
 refine drq_of [(0, some 4), (1, some 5), (3, some 7), (4, some 8), (6, some 10), (7, some 11), (9, some 13), (10, some 14), (12, some 16), (13, some 17), (15, some 19), (16, some 20), (18, some 22), (19, some 23), (20, some 24)] ?_
 repeat (first | (refine drq_pure HT (v := ?_) (a' := ?_) rfl rfl (by kernel_rfl) (fun _ _ _ h => h) (.inl ⟨by rfl, ?_⟩) ?_ ?_; rotate_left; (intro w'; go_simp; with_reducible rfl); rotate_left; (simp only [Act.put, List.setIfInBounds_toArray, List.set_cons_zero, List.set_cons_succ, i64_w, i32_w]; rfl)) | (refine drq_take HT HH (v := ?_) (a' := ?_) rfl rfl (by kernel_rfl) (fun _ _ _ h => h) (.inl ⟨by rfl, ?_⟩) ?_ ?_; rotate_left; (rintro w' ⟨rs', HS'⟩; have F := HS'.boxes; simp only [boxFacts, List.cons_append, List.nil_append, and_true] at F; go_simp; with_reducible rfl); rotate_left; (simp only [Act.put, List.setIfInBounds_toArray, List.set_cons_zero, List.set_cons_succ, i64_w, i32_w]; rfl)))
 refine drq_end ?_
 refine dr_one 2 HT rfl (by kernel_rfl) (by decide) (fun K hK => ?_)
 refine goes_ Try.func74 (by kernel_rfl) rfl #[.string a0.f0] (by rfl) rfl rfl (by simp only [List.map_toArray, List.map_cons, List.map_nil]; rfl) ?_; refine (impl_bytesItem.calls ht102001.out).mono ?_; rintro _ wt102001 ⟨v102002, rfl, HQ⟩; refine ⟨_, rfl, ?_⟩; replace HS := HS.call HQ; clear HQ; (try clear F); obtain ⟨B102002, d102002, rfl, m102002⟩ := HS.form 2 rfl
 replace HS : Hp noFP w _ [.box g1 [.string a0.f0, .int .i64 a0.f1, .int .i64 a0.f2, .int .i64 a0.f3, .int .i64 a0.f4, .int .i64 a0.f5, .slice Ap0 a0.f6.length cp0, .string a0.f7] 49, .box g2 [.int .i64 0, .string (⟨#[]⟩ : ByteArray), .slice none 0 0] 107, .own (Zd.slice 107 q107) t102001.f2 [.slice B102002 t102001.f2.length d102002]] := HS
 have F := HS.boxes; simp only [boxFacts, and_true] at F
 refine hK.out _ _ ⟨_, HS⟩ (fun HH => ?_)
 clear hK K
 refine norm_ (a' := ?_) ?_ ?_
 rotate_left
 · show Act.put _ (some 6) _ = _; simp only [Act.put, List.setIfInBounds_toArray, List.set_cons_zero, List.set_cons_succ, i64_w, i32_w]; rfl
 refine dr_one 5 HT rfl (by kernel_rfl) (by decide) (fun K hK => ?_)
 refine goes_ Try.func127 (by kernel_rfl) rfl #[.int .i64 a0.f1] (by rfl) rfl rfl (by simp only [List.map_toArray, List.map_cons, List.map_nil]; rfl) ?_; refine (impl_IntItem.calls ht105001.out).mono ?_; rintro _ wt105001 ⟨v105002, rfl, HQ⟩; refine ⟨_, rfl, ?_⟩; replace HS := HS.call HQ; clear HQ; (try clear F); obtain ⟨B105002, d105002, rfl, m105002⟩ := HS.form 3 rfl
 replace HS : Hp noFP w _ [.box g1 [.string a0.f0, .int .i64 a0.f1, .int .i64 a0.f2, .int .i64 a0.f3, .int .i64 a0.f4, .int .i64 a0.f5, .slice Ap0 a0.f6.length cp0, .string a0.f7] 49, .box g2 [.int .i64 0, .string (⟨#[]⟩ : ByteArray), .slice none 0 0] 107, .own (Zd.slice 107 q107) t102001.f2 [.slice B102002 t102001.f2.length d102002], .own (Zd.slice 107 q107) t105001.f2 [.slice B105002 t105001.f2.length d105002]] := HS
 have F := HS.boxes; simp only [boxFacts, and_true] at F
 refine hK.out _ _ ⟨_, HS⟩ (fun HH => ?_)
 clear hK K
 refine norm_ (a' := ?_) ?_ ?_
 rotate_left
 · show Act.put _ (some 9) _ = _; simp only [Act.put, List.setIfInBounds_toArray, List.set_cons_zero, List.set_cons_succ, i64_w, i32_w]; rfl
 refine dr_one 8 HT rfl (by kernel_rfl) (by decide) (fun K hK => ?_)
 refine goes_ Try.func127 (by kernel_rfl) rfl #[.int .i64 a0.f2] (by rfl) rfl rfl (by simp only [List.map_toArray, List.map_cons, List.map_nil]; rfl) ?_; refine (impl_IntItem.calls ht108001.out).mono ?_; rintro _ wt108001 ⟨v108002, rfl, HQ⟩; refine ⟨_, rfl, ?_⟩; replace HS := HS.call HQ; clear HQ; (try clear F); obtain ⟨B108002, d108002, rfl, m108002⟩ := HS.form 4 rfl
 replace HS : Hp noFP w _ [.box g1 [.string a0.f0, .int .i64 a0.f1, .int .i64 a0.f2, .int .i64 a0.f3, .int .i64 a0.f4, .int .i64 a0.f5, .slice Ap0 a0.f6.length cp0, .string a0.f7] 49, .box g2 [.int .i64 0, .string (⟨#[]⟩ : ByteArray), .slice none 0 0] 107, .own (Zd.slice 107 q107) t102001.f2 [.slice B102002 t102001.f2.length d102002], .own (Zd.slice 107 q107) t105001.f2 [.slice B105002 t105001.f2.length d105002], .own (Zd.slice 107 q107) t108001.f2 [.slice B108002 t108001.f2.length d108002]] := HS
 have F := HS.boxes; simp only [boxFacts, and_true] at F
 refine hK.out _ _ ⟨_, HS⟩ (fun HH => ?_)
 clear hK K
 refine norm_ (a' := ?_) ?_ ?_
 rotate_left
 · show Act.put _ (some 12) _ = _; simp only [Act.put, List.setIfInBounds_toArray, List.set_cons_zero, List.set_cons_succ, i64_w, i32_w]; rfl
 refine dr_one 11 HT rfl (by kernel_rfl) (by decide) (fun K hK => ?_)
 refine goes_ Try.func127 (by kernel_rfl) rfl #[.int .i64 a0.f3] (by rfl) rfl rfl (by simp only [List.map_toArray, List.map_cons, List.map_nil]; rfl) ?_; refine (impl_IntItem.calls ht111001.out).mono ?_; rintro _ wt111001 ⟨v111002, rfl, HQ⟩; refine ⟨_, rfl, ?_⟩; replace HS := HS.call HQ; clear HQ; (try clear F); obtain ⟨B111002, d111002, rfl, m111002⟩ := HS.form 5 rfl
 replace HS : Hp noFP w _ [.box g1 [.string a0.f0, .int .i64 a0.f1, .int .i64 a0.f2, .int .i64 a0.f3, .int .i64 a0.f4, .int .i64 a0.f5, .slice Ap0 a0.f6.length cp0, .string a0.f7] 49, .box g2 [.int .i64 0, .string (⟨#[]⟩ : ByteArray), .slice none 0 0] 107, .own (Zd.slice 107 q107) t102001.f2 [.slice B102002 t102001.f2.length d102002], .own (Zd.slice 107 q107) t105001.f2 [.slice B105002 t105001.f2.length d105002], .own (Zd.slice 107 q107) t108001.f2 [.slice B108002 t108001.f2.length d108002], .own (Zd.slice 107 q107) t111001.f2 [.slice B111002 t111001.f2.length d111002]] := HS
 have F := HS.boxes; simp only [boxFacts, and_true] at F
 refine hK.out _ _ ⟨_, HS⟩ (fun HH => ?_)
 clear hK K
 refine norm_ (a' := ?_) ?_ ?_
 rotate_left
 · show Act.put _ (some 15) _ = _; simp only [Act.put, List.setIfInBounds_toArray, List.set_cons_zero, List.set_cons_succ, i64_w, i32_w]; rfl
 refine dr_one 14 HT rfl (by kernel_rfl) (by decide) (fun K hK => ?_)
 refine goes_ Try.func127 (by kernel_rfl) rfl #[.int .i64 a0.f4] (by rfl) rfl rfl (by simp only [List.map_toArray, List.map_cons, List.map_nil]; rfl) ?_; refine (impl_IntItem.calls ht114001.out).mono ?_; rintro _ wt114001 ⟨v114002, rfl, HQ⟩; refine ⟨_, rfl, ?_⟩; replace HS := HS.call HQ; clear HQ; (try clear F); obtain ⟨B114002, d114002, rfl, m114002⟩ := HS.form 6 rfl
 replace HS : Hp noFP w _ [.box g1 [.string a0.f0, .int .i64 a0.f1, .int .i64 a0.f2, .int .i64 a0.f3, .int .i64 a0.f4, .int .i64 a0.f5, .slice Ap0 a0.f6.length cp0, .string a0.f7] 49, .box g2 [.int .i64 0, .string (⟨#[]⟩ : ByteArray), .slice none 0 0] 107, .own (Zd.slice 107 q107) t102001.f2 [.slice B102002 t102001.f2.length d102002], .own (Zd.slice 107 q107) t105001.f2 [.slice B105002 t105001.f2.length d105002], .own (Zd.slice 107 q107) t108001.f2 [.slice B108002 t108001.f2.length d108002], .own (Zd.slice 107 q107) t111001.f2 [.slice B111002 t111001.f2.length d111002], .own (Zd.slice 107 q107) t114001.f2 [.slice B114002 t114001.f2.length d114002]] := HS
 have F := HS.boxes; simp only [boxFacts, and_true] at F
 refine hK.out _ _ ⟨_, HS⟩ (fun HH => ?_)
 clear hK K
 refine norm_ (a' := ?_) ?_ ?_
 rotate_left
 · show Act.put _ (some 18) _ = _; simp only [Act.put, List.setIfInBounds_toArray, List.set_cons_zero, List.set_cons_succ, i64_w, i32_w]; rfl
 refine dr_one 17 HT rfl (by kernel_rfl) (by decide) (fun K hK => ?_)
 refine goes_ Try.func127 (by kernel_rfl) rfl #[.int .i64 a0.f5] (by rfl) rfl rfl (by simp only [List.map_toArray, List.map_cons, List.map_nil]; rfl) ?_; refine (impl_IntItem.calls ht117001.out).mono ?_; rintro _ wt117001 ⟨v117002, rfl, HQ⟩; refine ⟨_, rfl, ?_⟩; replace HS := HS.call HQ; clear HQ; (try clear F); obtain ⟨B117002, d117002, rfl, m117002⟩ := HS.form 7 rfl
 replace HS : Hp noFP w _ [.box g1 [.string a0.f0, .int .i64 a0.f1, .int .i64 a0.f2, .int .i64 a0.f3, .int .i64 a0.f4, .int .i64 a0.f5, .slice Ap0 a0.f6.length cp0, .string a0.f7] 49, .box g2 [.int .i64 0, .string (⟨#[]⟩ : ByteArray), .slice none 0 0] 107, .own (Zd.slice 107 q107) t102001.f2 [.slice B102002 t102001.f2.length d102002], .own (Zd.slice 107 q107) t105001.f2 [.slice B105002 t105001.f2.length d105002], .own (Zd.slice 107 q107) t108001.f2 [.slice B108002 t108001.f2.length d108002], .own (Zd.slice 107 q107) t111001.f2 [.slice B111002 t111001.f2.length d111002], .own (Zd.slice 107 q107) t114001.f2 [.slice B114002 t114001.f2.length d114002], .own (Zd.slice 107 q107) t117001.f2 [.slice B117002 t117001.f2.length d117002]] := HS
 have F := HS.boxes; simp only [boxFacts, and_true] at F
 refine hK.out _ _ ⟨_, HS⟩ (fun HH => ?_)
 clear hK K
 refine norm_ (a' := ?_) ?_ ?_
 rotate_left
 · show Act.put _ (some 21) _ = _; simp only [Act.put, List.setIfInBounds_toArray, List.set_cons_zero, List.set_cons_succ, i64_w, i32_w]; rfl
 refine dr_one 21 HT rfl (by kernel_rfl) (by decide) (fun K hK => ?_)
 refine goes_ Try.func129 (by kernel_rfl) rfl #[.slice Ap0 a0.f6.length cp0, .func (.func 126) #[] #[]] (by rfl) rfl rfl (by simp only [List.map_toArray, List.map_cons, List.map_nil]; rfl) ?_; refine (impl_Answer_129_0.calls ht121001.out (HS.ro gp0) lp0).mono ?_; rintro _ wt121001 ⟨v121002, rfl, HQ⟩; refine ⟨_, rfl, ?_⟩; replace HS := HS.call HQ; clear HQ; (try clear F); obtain ⟨B121002, d121002, rfl, m121002⟩ := HS.form 8 rfl
 replace HS : Hp noFP w _ [.box g1 [.string a0.f0, .int .i64 a0.f1, .int .i64 a0.f2, .int .i64 a0.f3, .int .i64 a0.f4, .int .i64 a0.f5, .slice Ap0 a0.f6.length cp0, .string a0.f7] 49, .box g2 [.int .i64 0, .string (⟨#[]⟩ : ByteArray), .slice none 0 0] 107, .own (Zd.slice 107 q107) t102001.f2 [.slice B102002 t102001.f2.length d102002], .own (Zd.slice 107 q107) t105001.f2 [.slice B105002 t105001.f2.length d105002], .own (Zd.slice 107 q107) t108001.f2 [.slice B108002 t108001.f2.length d108002], .own (Zd.slice 107 q107) t111001.f2 [.slice B111002 t111001.f2.length d111002], .own (Zd.slice 107 q107) t114001.f2 [.slice B114002 t114001.f2.length d114002], .own (Zd.slice 107 q107) t117001.f2 [.slice B117002 t117001.f2.length d117002], .own (Zd.slice 107 q107) t121001.f2 [.slice B121002 t121001.f2.length d121002]] := HS
 have F := HS.boxes; simp only [boxFacts, and_true] at F
 refine hK.out _ _ ⟨_, HS⟩ (fun HH => ?_)
 clear hK K
 refine norm_ (a' := ?_) ?_ ?_
 rotate_left
 · show Act.put _ (some 25) _ = _; simp only [Act.put, List.setIfInBounds_toArray, List.set_cons_zero, List.set_cons_succ, i64_w, i32_w]; rfl
 refine dr_one 22 HT rfl (by kernel_rfl) (by decide) (fun K hK => ?_)
 refine if_wp (by rfl) ?_; refine wp_lit q107 [2, 3, 4, 5, 6, 7, 8] ([t102001, t105001, t108001, t111001, t114001, t117001, t121001] : List S107) ([.int .i64 t102001.f0, .string t102001.f1, .slice B102002 t102001.f2.length d102002] ++ ([.int .i64 t105001.f0, .string t105001.f1, .slice B105002 t105001.f2.length d105002] ++ ([.int .i64 t108001.f0, .string t108001.f1, .slice B108002 t108001.f2.length d108002] ++ ([.int .i64 t111001.f0, .string t111001.f1, .slice B111002 t111001.f2.length d111002] ++ ([.int .i64 t114001.f0, .string t114001.f1, .slice B114002 t114001.f2.length d114002] ++ ([.int .i64 t117001.f0, .string t117001.f1, .slice B117002 t117001.f2.length d117002] ++ ([.int .i64 t121001.f0, .string t121001.f1, .slice B121002 t121001.f2.length d121002] ++ []))))))) HS (by first | (go_simp; done) | (go_simp; rfl)) rfl rfl (Nat.le_of_ble_eq_true rfl) (MadeL.cons (js1 := [2]) (c := [.int .i64 t102001.f0, .string t102001.f1, .slice B102002 t102001.f2.length d102002]) rfl (fun S hd hh => q107_pack (x := t102001) hd (hh 2 (.own (Zd.slice 107 q107) t102001.f2 [.slice B102002 t102001.f2.length d102002]) rfl) (by decide)) (MadeL.cons (js1 := [3]) (c := [.int .i64 t105001.f0, .string t105001.f1, .slice B105002 t105001.f2.length d105002]) rfl (fun S hd hh => q107_pack (x := t105001) hd (hh 3 (.own (Zd.slice 107 q107) t105001.f2 [.slice B105002 t105001.f2.length d105002]) rfl) (by decide)) (MadeL.cons (js1 := [4]) (c := [.int .i64 t108001.f0, .string t108001.f1, .slice B108002 t108001.f2.length d108002]) rfl (fun S hd hh => q107_pack (x := t108001) hd (hh 4 (.own (Zd.slice 107 q107) t108001.f2 [.slice B108002 t108001.f2.length d108002]) rfl) (by decide)) (MadeL.cons (js1 := [5]) (c := [.int .i64 t111001.f0, .string t111001.f1, .slice B111002 t111001.f2.length d111002]) rfl (fun S hd hh => q107_pack (x := t111001) hd (hh 5 (.own (Zd.slice 107 q107) t111001.f2 [.slice B111002 t111001.f2.length d111002]) rfl) (by decide)) (MadeL.cons (js1 := [6]) (c := [.int .i64 t114001.f0, .string t114001.f1, .slice B114002 t114001.f2.length d114002]) rfl (fun S hd hh => q107_pack (x := t114001) hd (hh 6 (.own (Zd.slice 107 q107) t114001.f2 [.slice B114002 t114001.f2.length d114002]) rfl) (by decide)) (MadeL.cons (js1 := [7]) (c := [.int .i64 t117001.f0, .string t117001.f1, .slice B117002 t117001.f2.length d117002]) rfl (fun S hd hh => q107_pack (x := t117001) hd (hh 7 (.own (Zd.slice 107 q107) t117001.f2 [.slice B117002 t117001.f2.length d117002]) rfl) (by decide)) (MadeL.cons (js1 := [8]) (c := [.int .i64 t121001.f0, .string t121001.f1, .slice B121002 t121001.f2.length d121002]) rfl (fun S hd hh => q107_pack (x := t121001) hd (hh 8 (.own (Zd.slice 107 q107) t121001.f2 [.slice B121002 t121001.f2.length d121002]) rfl) (by decide)) MadeL.nil (by decide)) (by decide)) (by decide)) (by decide)) (by decide)) (by decide)) (by decide)) ?_; clear HS; (try clear F); intro v122001 w122001 HS; obtain ⟨B122001, d122001, rfl, m122001⟩ := HS.formn 7 9 rfl rfl
 replace HS : Hp noFP w _ [.box g1 [.string a0.f0, .int .i64 a0.f1, .int .i64 a0.f2, .int .i64 a0.f3, .int .i64 a0.f4, .int .i64 a0.f5, .slice Ap0 a0.f6.length cp0, .string a0.f7] 49, .box g2 [.int .i64 0, .string (⟨#[]⟩ : ByteArray), .slice none 0 0] 107, .emp, .emp, .emp, .emp, .emp, .emp, .emp, .own (Zd.slice 107 q107) ([t102001, t105001, t108001, t111001, t114001, t117001, t121001] : List S107) [.slice B122001 7 d122001]] := HS
 have F := HS.boxes; simp only [boxFacts, and_true] at F
 refine hK.out _ _ ⟨_, HS⟩ (fun HH => ?_)
 clear hK K
 refine norm_ (a' := ?_) ?_ ?_
 rotate_left
 · show Act.put _ (some 26) _ = _; simp only [Act.put, List.setIfInBounds_toArray, List.set_cons_zero, List.set_cons_succ, i64_w, i32_w]; rfl
 refine dr_one 23 HT rfl (by kernel_rfl) (by decide) (fun K hK => ?_)
 refine goes_ Try.func73 (by kernel_rfl) rfl #[.slice B122001 7 d122001] (by rfl) rfl rfl (by simp only [List.map_toArray, List.map_cons, List.map_nil]; rfl) ?_; refine (impl_ListItem.calls ht123001.out (HS.rd 9 rfl) m122001).mono ?_; rintro _ wt123001 ⟨v123002, rfl, HQ⟩; refine ⟨_, rfl, ?_⟩; replace HS := HS.call HQ; clear HQ; (try clear F); obtain ⟨B123002, d123002, rfl, m123002⟩ := HS.form 10 rfl
 replace HS : Hp noFP w _ [.box g1 [.string a0.f0, .int .i64 a0.f1, .int .i64 a0.f2, .int .i64 a0.f3, .int .i64 a0.f4, .int .i64 a0.f5, .slice Ap0 a0.f6.length cp0, .string a0.f7] 49, .box g2 [.int .i64 0, .string (⟨#[]⟩ : ByteArray), .slice none 0 0] 107, .emp, .emp, .emp, .emp, .emp, .emp, .emp, .own (Zd.slice 107 q107) ([t102001, t105001, t108001, t111001, t114001, t117001, t121001] : List S107) [.slice B122001 7 d122001], .own (Zd.slice 107 q107) t123001.f2 [.slice B123002 t123001.f2.length d123002]] := HS
 have F := HS.boxes; simp only [boxFacts, and_true] at F
 refine hK.out _ _ ⟨_, HS⟩ (fun HH => ?_)
 clear hK K
 refine norm_ (a' := ?_) ?_ ?_
 rotate_left
 · show Act.put _ (some 27) _ = _; simp only [Act.put, List.setIfInBounds_toArray, List.set_cons_zero, List.set_cons_succ, i64_w, i32_w]; rfl
 refine dr_last 24 HT rfl (by kernel_rfl) (by decide) (fun K hK => ?_)
 refine if_wp (by rfl) ?_; refine wp_store 1 0 HS (seg := [.int .i64 t123001.f0, .string t123001.f1, .slice B123002 t123001.f2.length d123002]) rfl rfl rfl rfl rfl rfl (by kernel_rfl) (by simp [wrt]) (by simp [Value.oneCell']) ?_; clear HS; (try clear F); intro w124001 HS
 replace HS : Hp noFP w _ [.box g1 [.string a0.f0, .int .i64 a0.f1, .int .i64 a0.f2, .int .i64 a0.f3, .int .i64 a0.f4, .int .i64 a0.f5, .slice Ap0 a0.f6.length cp0, .string a0.f7] 49, .box g2 [.int .i64 t123001.f0, .string t123001.f1, .slice B123002 t123001.f2.length d123002] 107, .emp, .emp, .emp, .emp, .emp, .emp, .emp, .own (Zd.slice 107 q107) ([t102001, t105001, t108001, t111001, t114001, t117001, t121001] : List S107) [.slice B122001 7 d122001], .own (Zd.slice 107 q107) t123001.f2 [.slice B123002 t123001.f2.length d123002]] := HS
 have F := HS.boxes; simp only [boxFacts, and_true] at F
 refine hK.out _ _ ?_
 clear hK K
 refine done_ (done_of HT.out (by kernel_rfl)) ?_
 obtain rfl := zsome H
 go_wp2
 exact bodyPost_ret (results_single rfl (.cell _ _ _ _ _ rfl (HS.boxAt (i := 1) rfl) Try.underlying107 rfl (by kernel_rfl) .nil)) rfl ⟨_, rfl, HS.pick [10] (by decide) (by rfl)⟩
/-! ### impl_ReplyBody: function 27 -/
def impl_ReplyBody.f (k : Nat) (a0 : S49) : Option (ByteArray) := ((impl_replyItem.f k a0).bind fun t3 => ((impl_ItemText.f k t3).bind fun t6 => (some t6.1)))
set_option maxHeartbeats 16000000 in
theorem impl_ReplyBody.calls {k : Nat} {a0 : S49} {Ap0 : Option Addr} {np0 cp0 : Nat} {r : ByteArray} {w : World} (h : impl_ReplyBody.f k a0 = some r) (gp0 : k171.C w Ap0 np0 a0.f6) (lp0 : np0 ≤ cp0) :
    Calls Try.prog 27 #[.agg #[.string a0.f0, .int .i64 a0.f1, .int .i64 a0.f2, .int .i64 a0.f3, .int .i64 a0.f4, .int .i64 a0.f5, .slice Ap0 np0 cp0, .string a0.f7]] w (fun e w' => e = .returned (.string r) ∧ Hp noFP w w' []) := by
 obtain rfl := C_len gp0
 have HS := Hp.start w
 have H := Aside0.mk h
 clear h
 unfold impl_ReplyBody.f at H
 go_enter Try.func27, Try.ntmps27
 obtain ⟨t3, ht3, H⟩ := zbind H
 obtain ⟨t6, ht6, H⟩ := zbind H
 obtain rfl := zsome H
 go_wp2_with (first | ((with_reducible refine gate_dst (N := 1) rfl ?_); refine ev_box rfl HS (by first | (go_simp; done) | (go_simp; rfl)) rfl ?_; clear HS; (try clear F); intro g1 w1 HS; replace HS : Hp noFP w _ [.box g1 [.string a0.f0, .int .i64 a0.f1, .int .i64 a0.f2, .int .i64 a0.f3, .int .i64 a0.f4, .int .i64 a0.f5, .slice Ap0 a0.f6.length cp0, .string a0.f7] 49] := HS; have F := HS.boxes; simp only [boxFacts, and_true] at F) | ((with_reducible refine gate_dst (N := 7) rfl ?_); refine ev_call rfl Try.func68 (by kernel_rfl) rfl #[.agg #[.string a0.f0, .int .i64 a0.f1, .int .i64 a0.f2, .int .i64 a0.f3, .int .i64 a0.f4, .int .i64 a0.f5, .slice Ap0 a0.f6.length cp0, .string a0.f7]] rfl (by simp only [List.map_toArray, List.map_cons, List.map_nil]; rfl) ?_; refine (impl_replyItem.calls ht3.out (HS.ro gp0) lp0).mono ?_; rintro _ wt3 ⟨v4, rfl, HQ⟩; refine ⟨_, rfl, ?_⟩; replace HS := HS.call HQ; clear HQ; (try clear F); obtain ⟨B4, d4, rfl, m4⟩ := HS.form 1 rfl; replace HS : Hp noFP w _ [.box g1 [.string a0.f0, .int .i64 a0.f1, .int .i64 a0.f2, .int .i64 a0.f3, .int .i64 a0.f4, .int .i64 a0.f5, .slice Ap0 a0.f6.length cp0, .string a0.f7] 49, .own (Zd.slice 107 q107) t3.f2 [.slice B4 t3.f2.length d4]] := HS; have F := HS.boxes; simp only [boxFacts, and_true] at F) | ((with_reducible refine gate_dst (N := 8) rfl ?_); refine ev_call rfl Try.func67 (by kernel_rfl) rfl #[.agg #[.int .i64 t3.f0, .string t3.f1, .slice B4 t3.f2.length d4]] rfl (by simp only [List.map_toArray, List.map_cons, List.map_nil]; rfl) ?_; refine (impl_ItemText.calls ht6.out (HS.rd 1 rfl) m4).mono ?_; rintro _ wt6 ⟨rfl, HQ⟩; refine ⟨_, rfl, ?_⟩; replace HS := HS.call HQ; clear HQ; (try clear F); replace HS : Hp noFP w _ [.box g1 [.string a0.f0, .int .i64 a0.f1, .int .i64 a0.f2, .int .i64 a0.f3, .int .i64 a0.f4, .int .i64 a0.f5, .slice Ap0 a0.f6.length cp0, .string a0.f7] 49, .own (Zd.slice 107 q107) t3.f2 [.slice B4 t3.f2.length d4]] := HS; have F := HS.boxes; simp only [boxFacts, and_true] at F))
 go_ret
 exact ⟨rfl, HS.pick [] (by decide) (by rfl)⟩
/-! ### laws_eqStringS: function 96 -/
def laws_eqStringS.l0 : Nat → Int → (List ByteArray) → (List ByteArray) → Option (Bool)
  | 0, _, _, _ => none
  | k + 1, x5, a0, a1 => (if x5 < (a0.length : Int) then (if 0 ≤ x5 then (if x5 < (a0.length : Int) then (if x5 < (a1.length : Int) then (if (rdOf ByteArray.empty a0 x5).toList = (rdOf ByteArray.empty a1 x5).toList then (laws_eqStringS.l0 k (wrap64 (x5 + 1)) a0 a1) else (some false)) else none) else none) else none) else (some true))
def laws_eqStringS.f (k : Nat) (a0 : (List ByteArray)) (a1 : (List ByteArray)) : Option (Bool) := (if (a0.length : Int) = (a1.length : Int) then (laws_eqStringS.l0 k 0 a0 a1) else (some false))
def laws_eqStringS.T6 : Bool × List (List Nat × List Nat) := (true, [([], []), ([], []), ([0, 1], [0, 1]), ([2], [2]), ([], []), ([], []), ([4, 5], [4, 5]), ([6], [6]), ([3, 7], [3, 7])])
theorem laws_eqStringS.tT6 : rtab .any (opsOf Try.f96 6) = laws_eqStringS.T6 := by kernel_rfl
set_option maxHeartbeats 16000000 in
theorem laws_eqStringS.calls {k : Nat} {a0 : (List ByteArray)} {a1 : (List ByteArray)} {Ap0 : Option Addr} {np0 cp0 : Nat} {Ap1 : Option Addr} {np1 cp1 : Nat} {r : Bool} {w : World} (h : laws_eqStringS.f k a0 a1 = some r) (gp0 : Kd.string.C w Ap0 np0 a0) (lp0 : np0 ≤ cp0) (gp1 : Kd.string.C w Ap1 np1 a1) (lp1 : np1 ≤ cp1) :
    Calls Try.prog 96 #[.slice Ap0 np0 cp0, .slice Ap1 np1 cp1] w (fun e w' => e = .returned (.bool r) ∧ Hp noFP w w' []) := by
 obtain rfl := C_len gp0
 obtain rfl := C_len gp1
 have HS := Hp.start w
 have H := Aside0.mk h
 clear h
 unfold laws_eqStringS.f at H
 go_enter Try.func96, Try.ntmps96
 by_cases c1 : (a0.length : Int) = (a1.length : Int)
 · replace H := zpos c1 H
   have c1a := beq_iff_eq.mpr c1
   have c1b := bne_eq_false_iff_eq.mpr c1
   clear c1
   go_wp2
   go_loopg [5] k (fun kq v_5 w' => ∃ (x5 : Int), v_5 = .int .i64 x5 ∧ Aside0 (laws_eqStringS.l0 kq x5 a0 a1 = some r) ∧ Aside0 (kq ≤ k) ∧ Hp noFP w w' [])
   case atStart => exact ⟨_, rfl, H, ⟨Nat.le_refl _⟩, HS⟩
   case round =>
    clear HS H; (try clear F)
    obtain ⟨x5, rfl, H, HKk4, HS⟩ := hrel
    cases gk with
    | zero => exact absurd H.out (by simp [laws_eqStringS.l0])
    | succ k4 =>
     simp only [laws_eqStringS.l0] at H
     by_cases c7 : x5 < (a0.length : Int)
     · replace H := zpos c7 H
       replace c7 := eq_true c7
       (try go_wp2)
       by_cases c102001 : 0 ≤ x5
       case neg => exact zno c102001 H
       replace H := zpos c102001 H
       replace c102001 := eq_true c102001
       by_cases c102002 : x5 < (a0.length : Int)
       case neg => exact zno c102002 H
       replace H := zpos c102002 H
       replace c102002 := eq_true c102002
       obtain ⟨ad102003, rfl, e102003_0⟩ := Kd.at_string gp0 x5 (of_eq_true c102001) (of_eq_true c102002)
       by_cases c106001 : x5 < (a1.length : Int)
       case neg => exact zno c106001 H
       replace H := zpos c106001 H
       replace c106001 := eq_true c106001
       obtain ⟨ad106002, rfl, e106002_0⟩ := Kd.at_string gp1 x5 (of_eq_true c102001) (of_eq_true c106001)
       refine dr_start [] HS #[false, false, false, false, false, false, false, false, false] (by kernel_rfl) rfl rfl laws_eqStringS.tT6 (fun w9 HT HS HH => ?_)
       (try clear F)
       refine drq_of [(0, some 17), (1, some 18), (2, some 19)] ?_
       repeat (first | (refine drq_pure HT (v := ?_) (a' := ?_) rfl rfl (by kernel_rfl) (fun _ _ _ h => h) (.inl ⟨by rfl, ?_⟩) ?_ ?_; rotate_left; (intro w'; go_simp; with_reducible rfl); rotate_left; (simp only [Act.put, List.setIfInBounds_toArray, List.set_cons_zero, List.set_cons_succ, i64_w, i32_w]; rfl)))
       refine drq_end ?_
       refine dr_take 3 (some 20) HT HH (v := ?_) (a' := ?_) rfl rfl (by kernel_rfl) (fun _ _ _ h => h) (.inl ⟨by rfl, ?_⟩) ?_ ?_
       rotate_left
       · rintro w' ⟨rs', HS'⟩; have e102003_0 := HS'.keepc e102003_0; go_simp; with_reducible rfl
       rotate_left
       · simp only [Act.put, List.setIfInBounds_toArray, List.set_cons_zero, List.set_cons_succ, i64_w, i32_w]; rfl
       refine drq_of [(4, some 21), (5, some 22), (6, some 23)] ?_
       repeat (first | (refine drq_pure HT (v := ?_) (a' := ?_) rfl rfl (by kernel_rfl) (fun _ _ _ h => h) (.inl ⟨by rfl, ?_⟩) ?_ ?_; rotate_left; (intro w'; go_simp; with_reducible rfl); rotate_left; (simp only [Act.put, List.setIfInBounds_toArray, List.set_cons_zero, List.set_cons_succ, i64_w, i32_w]; rfl)))
       refine drq_end ?_
       refine dr_take 7 (some 24) HT HH (v := ?_) (a' := ?_) rfl rfl (by kernel_rfl) (fun _ _ _ h => h) (.inl ⟨by rfl, ?_⟩) ?_ ?_
       rotate_left
       · rintro w' ⟨rs', HS'⟩; have e106002_0 := HS'.keepc e106002_0; go_simp; with_reducible rfl
       rotate_left
       · simp only [Act.put, List.setIfInBounds_toArray, List.set_cons_zero, List.set_cons_succ, i64_w, i32_w]; rfl
       refine drq_of [(8, some 25)] ?_
       repeat (first | (refine drq_pure HT (v := ?_) (a' := ?_) rfl rfl (by kernel_rfl) (fun _ _ _ h => h) (.inl ⟨by rfl, ?_⟩) ?_ ?_; rotate_left; (intro w'; go_simp; with_reducible rfl); rotate_left; (simp only [Act.put, List.setIfInBounds_toArray, List.set_cons_zero, List.set_cons_succ, i64_w, i32_w]; rfl)))
       refine drq_end ?_
       refine done_ (done_of HT.out (by kernel_rfl)) ?_
       by_cases c11 : (rdOf ByteArray.empty a0 x5).toList = (rdOf ByteArray.empty a1 x5).toList
       · replace H := zpos c11 H
         have c11a := beq_iff_eq.mpr c11
         have c11b := bne_eq_false_iff_eq.mpr c11
         clear c11
         (try simp only [c11a, c11b, decide_true, decide_false, Bool.not_true, Bool.not_false])
         go_wp2
         go_roundg k4
         case measure => have := HKk4.out; omega
         case rel => exact ⟨_, rfl, H, ⟨by have := HKk4.out; omega⟩, HS.pick [] (by decide) (by rfl)⟩
       · replace H := zneg c11 H
         have c11a := beq_eq_false_iff_ne.mpr c11
         have c11b := bne_iff_ne.mpr c11
         clear c11
         (try simp only [c11a, c11b, decide_true, decide_false, Bool.not_true, Bool.not_false])
         obtain rfl := zsome H
         go_wp2
         go_ret
         exact ⟨rfl, HS.pick [] (by decide) (by rfl)⟩
     · replace H := zneg c7 H
       replace c7 := eq_false c7
       obtain rfl := zsome H
       go_wp2
       go_ret
       exact ⟨rfl, HS.pick [] (by decide) (by rfl)⟩
 · replace H := zneg c1 H
   have c1a := beq_eq_false_iff_ne.mpr c1
   have c1b := bne_iff_ne.mpr c1
   clear c1
   obtain rfl := zsome H
   go_wp2
   go_ret
   exact ⟨rfl, HS.pick [] (by decide) (by rfl)⟩
/-! ### laws_eqAnswer: function 130 -/
def laws_eqAnswer.f (k : Nat) (a0 : S171) (a1 : S171) : Option (Bool) := (if a0.f0 = a1.f0 then (if a0.f1 = a1.f1 then ((laws_eqStringS.f k a0.f2 a1.f2).bind fun t7 => (if t7 = true then ((laws_eqStringS.f k a0.f3 a1.f3).bind fun t10 => (if t10 = true then (some true) else (some false))) else (some false))) else (some false)) else (some false))
set_option maxHeartbeats 16000000 in
theorem laws_eqAnswer.calls {k : Nat} {a0 : S171} {a1 : S171} {Ap0 : Option Addr} {np0 cp0 : Nat} {Ap1 : Option Addr} {np1 cp1 : Nat} {Ap2 : Option Addr} {np2 cp2 : Nat} {Ap3 : Option Addr} {np3 cp3 : Nat} {r : Bool} {w : World} (h : laws_eqAnswer.f k a0 a1 = some r) (gp0 : Kd.string.C w Ap0 np0 a0.f2) (lp0 : np0 ≤ cp0) (gp1 : Kd.string.C w Ap1 np1 a0.f3) (lp1 : np1 ≤ cp1) (gp2 : Kd.string.C w Ap2 np2 a1.f2) (lp2 : np2 ≤ cp2) (gp3 : Kd.string.C w Ap3 np3 a1.f3) (lp3 : np3 ≤ cp3) :
    Calls Try.prog 130 #[.agg #[.int .i64 a0.f0, .int .i64 a0.f1, .slice Ap0 np0 cp0, .slice Ap1 np1 cp1], .agg #[.int .i64 a1.f0, .int .i64 a1.f1, .slice Ap2 np2 cp2, .slice Ap3 np3 cp3]] w (fun e w' => e = .returned (.bool r) ∧ Hp noFP w w' []) := by
 obtain rfl := C_len gp0
 obtain rfl := C_len gp1
 obtain rfl := C_len gp2
 obtain rfl := C_len gp3
 have HS := Hp.start w
 have H := Aside0.mk h
 clear h
 unfold laws_eqAnswer.f at H
 go_enter Try.func130, Try.ntmps130
 go_upto_if 9 with (first | ((with_reducible refine gate_dst (N := 2) rfl ?_); refine ev_box rfl HS (by first | (go_simp; done) | (go_simp; rfl)) rfl ?_; clear HS; (try clear F); intro g2 w2 HS; replace HS : Hp noFP w _ [.box g2 [.int .i64 a0.f0, .int .i64 a0.f1, .slice Ap0 a0.f2.length cp0, .slice Ap1 a0.f3.length cp1] 171] := HS; have F := HS.boxes; simp only [boxFacts, and_true] at F) | ((with_reducible refine gate_dst (N := 3) rfl ?_); refine ev_box rfl HS (by first | (go_simp; done) | (go_simp; rfl)) rfl ?_; clear HS; (try clear F); intro g3 w3 HS; replace HS : Hp noFP w _ [.box g2 [.int .i64 a0.f0, .int .i64 a0.f1, .slice Ap0 a0.f2.length cp0, .slice Ap1 a0.f3.length cp1] 171, .box g3 [.int .i64 a1.f0, .int .i64 a1.f1, .slice Ap2 a1.f2.length cp2, .slice Ap3 a1.f3.length cp3] 171] := HS; have F := HS.boxes; simp only [boxFacts, and_true] at F))
 by_cases c5 : a0.f0 = a1.f0
 · replace H := zpos c5 H
   have c5a := beq_iff_eq.mpr c5
   have c5b := bne_eq_false_iff_eq.mpr c5
   clear c5
   (try simp only [c5a, c5b, decide_true, decide_false, Bool.not_true, Bool.not_false])
   by_cases c6 : a0.f1 = a1.f1
   · replace H := zpos c6 H
     have c6a := beq_iff_eq.mpr c6
     have c6b := bne_eq_false_iff_eq.mpr c6
     clear c6
     obtain ⟨t7, ht7, H⟩ := zbind H
     go_upto_if 20 with (first | ((with_reducible refine gate_dst (N := 19) rfl ?_); refine ev_call rfl Try.func96 (by kernel_rfl) rfl #[.slice Ap0 a0.f2.length cp0, .slice Ap2 a1.f2.length cp2] rfl (by simp only [List.map_toArray, List.map_cons, List.map_nil]; rfl) ?_; refine (laws_eqStringS.calls ht7.out (HS.ro gp0) lp0 (HS.ro gp2) lp2).mono ?_; rintro _ wt7 ⟨rfl, HQ⟩; refine ⟨_, rfl, ?_⟩; replace HS := HS.call HQ; clear HQ; (try clear F); replace HS : Hp noFP w _ [.box g2 [.int .i64 a0.f0, .int .i64 a0.f1, .slice Ap0 a0.f2.length cp0, .slice Ap1 a0.f3.length cp1] 171, .box g3 [.int .i64 a1.f0, .int .i64 a1.f1, .slice Ap2 a1.f2.length cp2, .slice Ap3 a1.f3.length cp3] 171] := HS; have F := HS.boxes; simp only [boxFacts, and_true] at F))
     by_cases c9 : t7 = true
     · replace H := zpos c9 H
       (try simp only [c9, decide_true, decide_false, Bool.not_true, Bool.not_false])
       obtain ⟨t10, ht10, H⟩ := zbind H
       go_upto_if 26 with (first | ((with_reducible refine gate_dst (N := 25) rfl ?_); refine ev_call rfl Try.func96 (by kernel_rfl) rfl #[.slice Ap1 a0.f3.length cp1, .slice Ap3 a1.f3.length cp3] rfl (by simp only [List.map_toArray, List.map_cons, List.map_nil]; rfl) ?_; refine (laws_eqStringS.calls ht10.out (HS.ro gp1) lp1 (HS.ro gp3) lp3).mono ?_; rintro _ wt10 ⟨rfl, HQ⟩; refine ⟨_, rfl, ?_⟩; replace HS := HS.call HQ; clear HQ; (try clear F); replace HS : Hp noFP w _ [.box g2 [.int .i64 a0.f0, .int .i64 a0.f1, .slice Ap0 a0.f2.length cp0, .slice Ap1 a0.f3.length cp1] 171, .box g3 [.int .i64 a1.f0, .int .i64 a1.f1, .slice Ap2 a1.f2.length cp2, .slice Ap3 a1.f3.length cp3] 171] := HS; have F := HS.boxes; simp only [boxFacts, and_true] at F))
       by_cases c12 : t10 = true
       · replace H := zpos c12 H
         (try simp only [c12, decide_true, decide_false, Bool.not_true, Bool.not_false])
         obtain rfl := zsome H
         go_wp2
         go_ret
         exact ⟨rfl, HS.pick [] (by decide) (by rfl)⟩
       · replace H := zneg c12 H
         replace c12 := eq_false_of_ne_true c12
         (try simp only [c12, decide_true, decide_false, Bool.not_true, Bool.not_false])
         obtain rfl := zsome H
         go_wp2
         go_ret
         exact ⟨rfl, HS.pick [] (by decide) (by rfl)⟩
     · replace H := zneg c9 H
       replace c9 := eq_false_of_ne_true c9
       (try simp only [c9, decide_true, decide_false, Bool.not_true, Bool.not_false])
       obtain rfl := zsome H
       go_wp2
       go_ret
       exact ⟨rfl, HS.pick [] (by decide) (by rfl)⟩
   · replace H := zneg c6 H
     have c6a := beq_eq_false_iff_ne.mpr c6
     have c6b := bne_iff_ne.mpr c6
     clear c6
     obtain rfl := zsome H
     go_wp2
     go_ret
     exact ⟨rfl, HS.pick [] (by decide) (by rfl)⟩
 · replace H := zneg c5 H
   have c5a := beq_eq_false_iff_ne.mpr c5
   have c5b := bne_iff_ne.mpr c5
   clear c5
   (try simp only [c5a, c5b, decide_true, decide_false, Bool.not_true, Bool.not_false])
   obtain rfl := zsome H
   go_wp2
   go_ret
   exact ⟨rfl, HS.pick [] (by decide) (by rfl)⟩
/-! ### laws_eqAnswerS: function 69 -/
def laws_eqAnswerS.l0 : Nat → Int → (List S171) → (List S171) → Option (Bool)
  | 0, _, _, _ => none
  | k + 1, x5, a0, a1 => (if x5 < (a0.length : Int) then (if 0 ≤ x5 then (if x5 < (a0.length : Int) then (if x5 < (a1.length : Int) then ((laws_eqAnswer.f k (rd_T171 a0 x5) (rd_T171 a1 x5)).bind fun t108001 => (if t108001 = true then (laws_eqAnswerS.l0 k (wrap64 (x5 + 1)) a0 a1) else (some false))) else none) else none) else none) else (some true))
def laws_eqAnswerS.f (k : Nat) (a0 : (List S171)) (a1 : (List S171)) : Option (Bool) := (if (a0.length : Int) = (a1.length : Int) then (laws_eqAnswerS.l0 k 0 a0 a1) else (some false))
def laws_eqAnswerS.T6 : Bool × List (List Nat × List Nat) := (true, [([], []), ([], []), ([0, 1], [0, 1]), ([2], [2]), ([], []), ([], []), ([4, 5], [4, 5]), ([6], [6]), ([3, 7], [3, 7]), ([8], [8])])
theorem laws_eqAnswerS.tT6 : rtab .any (opsOf Try.f69 6) = laws_eqAnswerS.T6 := by kernel_rfl
set_option maxHeartbeats 16000000 in
theorem laws_eqAnswerS.calls {k : Nat} {a0 : (List S171)} {a1 : (List S171)} {Ap0 : Option Addr} {np0 cp0 : Nat} {Ap1 : Option Addr} {np1 cp1 : Nat} {r : Bool} {w : World} (h : laws_eqAnswerS.f k a0 a1 = some r) (gp0 : k171.C w Ap0 np0 a0) (lp0 : np0 ≤ cp0) (gp1 : k171.C w Ap1 np1 a1) (lp1 : np1 ≤ cp1) :
    Calls Try.prog 69 #[.slice Ap0 np0 cp0, .slice Ap1 np1 cp1] w (fun e w' => e = .returned (.bool r) ∧ Hp noFP w w' []) := by
 obtain rfl := C_len gp0
 obtain rfl := C_len gp1
 have HS := Hp.start w
 have H := Aside0.mk h
 clear h
 unfold laws_eqAnswerS.f at H
 go_enter Try.func69, Try.ntmps69
 by_cases c1 : (a0.length : Int) = (a1.length : Int)
 · replace H := zpos c1 H
   have c1a := beq_iff_eq.mpr c1
   have c1b := bne_eq_false_iff_eq.mpr c1
   clear c1
   go_wp2
   go_loopg [5] k (fun kq v_5 w' => ∃ (x5 : Int), v_5 = .int .i64 x5 ∧ Aside0 (laws_eqAnswerS.l0 kq x5 a0 a1 = some r) ∧ Aside0 (kq ≤ k) ∧ Hp noFP w w' [])
   case atStart => exact ⟨_, rfl, H, ⟨Nat.le_refl _⟩, HS⟩
   case round =>
    clear HS H; (try clear F)
    obtain ⟨x5, rfl, H, HKk4, HS⟩ := hrel
    cases gk with
    | zero => exact absurd H.out (by simp [laws_eqAnswerS.l0])
    | succ k4 =>
     simp only [laws_eqAnswerS.l0] at H
     by_cases c7 : x5 < (a0.length : Int)
     · replace H := zpos c7 H
       replace c7 := eq_true c7
       (try go_wp2)
       by_cases c102001 : 0 ≤ x5
       case neg => exact zno c102001 H
       replace H := zpos c102001 H
       replace c102001 := eq_true c102001
       by_cases c102002 : x5 < (a0.length : Int)
       case neg => exact zno c102002 H
       replace H := zpos c102002 H
       replace c102002 := eq_true c102002
       obtain ⟨ad102003, B102003_2, d102003_2, B102003_3, d102003_3, rfl, e102003_0, e102003_1, e102003_2, e102003_3, m102003_2, y102003_2, m102003_3, y102003_3⟩ := at_T171 gp0 x5 (of_eq_true c102001) (of_eq_true c102002)
       by_cases c106001 : x5 < (a1.length : Int)
       case neg => exact zno c106001 H
       replace H := zpos c106001 H
       replace c106001 := eq_true c106001
       obtain ⟨ad106002, B106002_2, d106002_2, B106002_3, d106002_3, rfl, e106002_0, e106002_1, e106002_2, e106002_3, m106002_2, y106002_2, m106002_3, y106002_3⟩ := at_T171 gp1 x5 (of_eq_true c102001) (of_eq_true c106001)
       obtain ⟨t108001, ht108001, H⟩ := zbind H
       refine dr_start [] HS #[false, false, false, false, false, false, false, false, false, false] (by kernel_rfl) rfl rfl laws_eqAnswerS.tT6 (fun w9 HT HS HH => ?_)
       (try clear F)
       refine drq_of [(0, some 17), (1, some 18), (2, some 19)] ?_
       repeat (first | (refine drq_pure HT (v := ?_) (a' := ?_) rfl rfl (by kernel_rfl) (fun _ _ _ h => h) (.inl ⟨by rfl, ?_⟩) ?_ ?_; rotate_left; (intro w'; go_simp; with_reducible rfl); rotate_left; (simp only [Act.put, List.setIfInBounds_toArray, List.set_cons_zero, List.set_cons_succ, i64_w, i32_w]; rfl)))
       refine drq_end ?_
       refine dr_take 3 (some 20) HT HH (v := ?_) (a' := ?_) rfl rfl (by kernel_rfl) (fun _ _ _ h => h) (.inl ⟨by rfl, ?_⟩) ?_ ?_
       rotate_left
       · rintro w' ⟨rs', HS'⟩; have e102003_0 := HS'.keepc e102003_0; have e102003_1 := HS'.keepc e102003_1; have e102003_2 := HS'.keepc e102003_2; have e102003_3 := HS'.keepc e102003_3; go_simp; with_reducible rfl
       rotate_left
       · simp only [Act.put, List.setIfInBounds_toArray, List.set_cons_zero, List.set_cons_succ, i64_w, i32_w]; rfl
       refine drq_of [(4, some 21), (5, some 22), (6, some 23)] ?_
       repeat (first | (refine drq_pure HT (v := ?_) (a' := ?_) rfl rfl (by kernel_rfl) (fun _ _ _ h => h) (.inl ⟨by rfl, ?_⟩) ?_ ?_; rotate_left; (intro w'; go_simp; with_reducible rfl); rotate_left; (simp only [Act.put, List.setIfInBounds_toArray, List.set_cons_zero, List.set_cons_succ, i64_w, i32_w]; rfl)))
       refine drq_end ?_
       refine dr_take 7 (some 24) HT HH (v := ?_) (a' := ?_) rfl rfl (by kernel_rfl) (fun _ _ _ h => h) (.inl ⟨by rfl, ?_⟩) ?_ ?_
       rotate_left
       · rintro w' ⟨rs', HS'⟩; have e106002_0 := HS'.keepc e106002_0; have e106002_1 := HS'.keepc e106002_1; have e106002_2 := HS'.keepc e106002_2; have e106002_3 := HS'.keepc e106002_3; go_simp; with_reducible rfl
       rotate_left
       · simp only [Act.put, List.setIfInBounds_toArray, List.set_cons_zero, List.set_cons_succ, i64_w, i32_w]; rfl
       refine dr_one 8 HT rfl (by kernel_rfl) (by decide) (fun K hK => ?_)
       refine goes_ Try.func130 (by kernel_rfl) rfl #[.agg #[.int .i64 ((rd_T171 a0 x5).f0), .int .i64 ((rd_T171 a0 x5).f1), .slice B102003_2 (rd_T171 a0 x5).f2.length d102003_2, .slice B102003_3 (rd_T171 a0 x5).f3.length d102003_3], .agg #[.int .i64 ((rd_T171 a1 x5).f0), .int .i64 ((rd_T171 a1 x5).f1), .slice B106002_2 (rd_T171 a1 x5).f2.length d106002_2, .slice B106002_3 (rd_T171 a1 x5).f3.length d106002_3]] (by rfl) rfl rfl (by simp only [List.map_toArray, List.map_cons, List.map_nil]; rfl) ?_; refine (laws_eqAnswer.calls ht108001.out (HS.ro y102003_2) m102003_2 (HS.ro y102003_3) m102003_3 (HS.ro y106002_2) m106002_2 (HS.ro y106002_3) m106002_3).mono ?_; rintro _ wt108001 ⟨rfl, HQ⟩; refine ⟨_, rfl, ?_⟩; replace HS := HS.call HQ; clear HQ; (try clear F)
       replace HS : Hp noFP w _ [] := HS
       refine hK.out _ _ ⟨_, HS⟩ (fun HH => ?_)
       clear hK K
       refine norm_ (a' := ?_) ?_ ?_
       rotate_left
       · show Act.put _ (some 25) _ = _; simp only [Act.put, List.setIfInBounds_toArray, List.set_cons_zero, List.set_cons_succ, i64_w, i32_w]; rfl
       refine drq_of [(9, some 26)] ?_
       repeat (first | (refine drq_pure HT (v := ?_) (a' := ?_) rfl rfl (by kernel_rfl) (fun _ _ _ h => h) (.inl ⟨by rfl, ?_⟩) ?_ ?_; rotate_left; (intro w'; go_simp; with_reducible rfl); rotate_left; (simp only [Act.put, List.setIfInBounds_toArray, List.set_cons_zero, List.set_cons_succ, i64_w, i32_w]; rfl)))
       refine drq_end ?_
       refine done_ (done_of HT.out (by kernel_rfl)) ?_
       by_cases c11 : t108001 = true
       · replace H := zpos c11 H
         (try simp only [c11, decide_true, decide_false, Bool.not_true, Bool.not_false])
         go_wp2
         go_roundg k4
         case measure => have := HKk4.out; omega
         case rel => exact ⟨_, rfl, H, ⟨by have := HKk4.out; omega⟩, HS.pick [] (by decide) (by rfl)⟩
       · replace H := zneg c11 H
         replace c11 := eq_false_of_ne_true c11
         (try simp only [c11, decide_true, decide_false, Bool.not_true, Bool.not_false])
         obtain rfl := zsome H
         go_wp2
         go_ret
         exact ⟨rfl, HS.pick [] (by decide) (by rfl)⟩
     · replace H := zneg c7 H
       replace c7 := eq_false c7
       obtain rfl := zsome H
       go_wp2
       go_ret
       exact ⟨rfl, HS.pick [] (by decide) (by rfl)⟩
 · replace H := zneg c1 H
   have c1a := beq_eq_false_iff_ne.mpr c1
   have c1b := bne_iff_ne.mpr c1
   clear c1
   obtain rfl := zsome H
   go_wp2
   go_ret
   exact ⟨rfl, HS.pick [] (by decide) (by rfl)⟩
/-! ### laws_eqReply: function 28 -/
def laws_eqReply.f (k : Nat) (a0 : S49) (a1 : S49) : Option (Bool) := (if a0.f0.toList = a1.f0.toList then (if a0.f1 = a1.f1 then (if a0.f2 = a1.f2 then (if a0.f3 = a1.f3 then (if a0.f4 = a1.f4 then (if a0.f5 = a1.f5 then ((laws_eqAnswerS.f k a0.f6 a1.f6).bind fun t11 => (if t11 = true then (if a0.f7.toList = a1.f7.toList then (some true) else (some false)) else (some false))) else (some false)) else (some false)) else (some false)) else (some false)) else (some false)) else (some false))
set_option maxHeartbeats 16000000 in
theorem laws_eqReply.calls {k : Nat} {a0 : S49} {a1 : S49} {Ap0 : Option Addr} {np0 cp0 : Nat} {Ap1 : Option Addr} {np1 cp1 : Nat} {r : Bool} {w : World} (h : laws_eqReply.f k a0 a1 = some r) (gp0 : k171.C w Ap0 np0 a0.f6) (lp0 : np0 ≤ cp0) (gp1 : k171.C w Ap1 np1 a1.f6) (lp1 : np1 ≤ cp1) :
    Calls Try.prog 28 #[.agg #[.string a0.f0, .int .i64 a0.f1, .int .i64 a0.f2, .int .i64 a0.f3, .int .i64 a0.f4, .int .i64 a0.f5, .slice Ap0 np0 cp0, .string a0.f7], .agg #[.string a1.f0, .int .i64 a1.f1, .int .i64 a1.f2, .int .i64 a1.f3, .int .i64 a1.f4, .int .i64 a1.f5, .slice Ap1 np1 cp1, .string a1.f7]] w (fun e w' => e = .returned (.bool r) ∧ Hp noFP w w' []) := by
 obtain rfl := C_len gp0
 obtain rfl := C_len gp1
 have HS := Hp.start w
 have H := Aside0.mk h
 clear h
 unfold laws_eqReply.f at H
 go_enter Try.func28, Try.ntmps28
 go_upto_if 9 with (first | ((with_reducible refine gate_dst (N := 2) rfl ?_); refine ev_box rfl HS (by first | (go_simp; done) | (go_simp; rfl)) rfl ?_; clear HS; (try clear F); intro g2 w2 HS; replace HS : Hp noFP w _ [.box g2 [.string a0.f0, .int .i64 a0.f1, .int .i64 a0.f2, .int .i64 a0.f3, .int .i64 a0.f4, .int .i64 a0.f5, .slice Ap0 a0.f6.length cp0, .string a0.f7] 49] := HS; have F := HS.boxes; simp only [boxFacts, and_true] at F) | ((with_reducible refine gate_dst (N := 3) rfl ?_); refine ev_box rfl HS (by first | (go_simp; done) | (go_simp; rfl)) rfl ?_; clear HS; (try clear F); intro g3 w3 HS; replace HS : Hp noFP w _ [.box g2 [.string a0.f0, .int .i64 a0.f1, .int .i64 a0.f2, .int .i64 a0.f3, .int .i64 a0.f4, .int .i64 a0.f5, .slice Ap0 a0.f6.length cp0, .string a0.f7] 49, .box g3 [.string a1.f0, .int .i64 a1.f1, .int .i64 a1.f2, .int .i64 a1.f3, .int .i64 a1.f4, .int .i64 a1.f5, .slice Ap1 a1.f6.length cp1, .string a1.f7] 49] := HS; have F := HS.boxes; simp only [boxFacts, and_true] at F))
 by_cases c5 : a0.f0.toList = a1.f0.toList
 · replace H := zpos c5 H
   have c5a := beq_iff_eq.mpr c5
   have c5b := bne_eq_false_iff_eq.mpr c5
   clear c5
   (try simp only [c5a, c5b, decide_true, decide_false, Bool.not_true, Bool.not_false])
   by_cases c6 : a0.f1 = a1.f1
   · replace H := zpos c6 H
     have c6a := beq_iff_eq.mpr c6
     have c6b := bne_eq_false_iff_eq.mpr c6
     clear c6
     by_cases c7 : a0.f2 = a1.f2
     · replace H := zpos c7 H
       have c7a := beq_iff_eq.mpr c7
       have c7b := bne_eq_false_iff_eq.mpr c7
       clear c7
       by_cases c8 : a0.f3 = a1.f3
       · replace H := zpos c8 H
         have c8a := beq_iff_eq.mpr c8
         have c8b := bne_eq_false_iff_eq.mpr c8
         clear c8
         by_cases c9 : a0.f4 = a1.f4
         · replace H := zpos c9 H
           have c9a := beq_iff_eq.mpr c9
           have c9b := bne_eq_false_iff_eq.mpr c9
           clear c9
           by_cases c10 : a0.f5 = a1.f5
           · replace H := zpos c10 H
             have c10a := beq_iff_eq.mpr c10
             have c10b := bne_eq_false_iff_eq.mpr c10
             clear c10
             obtain ⟨t11, ht11, H⟩ := zbind H
             go_upto_if 40 with (first | ((with_reducible refine gate_dst (N := 39) rfl ?_); refine ev_call rfl Try.func69 (by kernel_rfl) rfl #[.slice Ap0 a0.f6.length cp0, .slice Ap1 a1.f6.length cp1] rfl (by simp only [List.map_toArray, List.map_cons, List.map_nil]; rfl) ?_; refine (laws_eqAnswerS.calls ht11.out (HS.ro gp0) lp0 (HS.ro gp1) lp1).mono ?_; rintro _ wt11 ⟨rfl, HQ⟩; refine ⟨_, rfl, ?_⟩; replace HS := HS.call HQ; clear HQ; (try clear F); replace HS : Hp noFP w _ [.box g2 [.string a0.f0, .int .i64 a0.f1, .int .i64 a0.f2, .int .i64 a0.f3, .int .i64 a0.f4, .int .i64 a0.f5, .slice Ap0 a0.f6.length cp0, .string a0.f7] 49, .box g3 [.string a1.f0, .int .i64 a1.f1, .int .i64 a1.f2, .int .i64 a1.f3, .int .i64 a1.f4, .int .i64 a1.f5, .slice Ap1 a1.f6.length cp1, .string a1.f7] 49] := HS; have F := HS.boxes; simp only [boxFacts, and_true] at F))
             by_cases c13 : t11 = true
             · replace H := zpos c13 H
               (try simp only [c13, decide_true, decide_false, Bool.not_true, Bool.not_false])
               by_cases c14 : a0.f7.toList = a1.f7.toList
               · replace H := zpos c14 H
                 have c14a := beq_iff_eq.mpr c14
                 have c14b := bne_eq_false_iff_eq.mpr c14
                 clear c14
                 obtain rfl := zsome H
                 go_wp2
                 go_ret
                 exact ⟨rfl, HS.pick [] (by decide) (by rfl)⟩
               · replace H := zneg c14 H
                 have c14a := beq_eq_false_iff_ne.mpr c14
                 have c14b := bne_iff_ne.mpr c14
                 clear c14
                 obtain rfl := zsome H
                 go_wp2
                 go_ret
                 exact ⟨rfl, HS.pick [] (by decide) (by rfl)⟩
             · replace H := zneg c13 H
               replace c13 := eq_false_of_ne_true c13
               (try simp only [c13, decide_true, decide_false, Bool.not_true, Bool.not_false])
               obtain rfl := zsome H
               go_wp2
               go_ret
               exact ⟨rfl, HS.pick [] (by decide) (by rfl)⟩
           · replace H := zneg c10 H
             have c10a := beq_eq_false_iff_ne.mpr c10
             have c10b := bne_iff_ne.mpr c10
             clear c10
             obtain rfl := zsome H
             go_wp2
             go_ret
             exact ⟨rfl, HS.pick [] (by decide) (by rfl)⟩
         · replace H := zneg c9 H
           have c9a := beq_eq_false_iff_ne.mpr c9
           have c9b := bne_iff_ne.mpr c9
           clear c9
           obtain rfl := zsome H
           go_wp2
           go_ret
           exact ⟨rfl, HS.pick [] (by decide) (by rfl)⟩
       · replace H := zneg c8 H
         have c8a := beq_eq_false_iff_ne.mpr c8
         have c8b := bne_iff_ne.mpr c8
         clear c8
         obtain rfl := zsome H
         go_wp2
         go_ret
         exact ⟨rfl, HS.pick [] (by decide) (by rfl)⟩
     · replace H := zneg c7 H
       have c7a := beq_eq_false_iff_ne.mpr c7
       have c7b := bne_iff_ne.mpr c7
       clear c7
       obtain rfl := zsome H
       go_wp2
       go_ret
       exact ⟨rfl, HS.pick [] (by decide) (by rfl)⟩
   · replace H := zneg c6 H
     have c6a := beq_eq_false_iff_ne.mpr c6
     have c6b := bne_iff_ne.mpr c6
     clear c6
     obtain rfl := zsome H
     go_wp2
     go_ret
     exact ⟨rfl, HS.pick [] (by decide) (by rfl)⟩
 · replace H := zneg c5 H
   have c5a := beq_eq_false_iff_ne.mpr c5
   have c5b := bne_iff_ne.mpr c5
   clear c5
   (try simp only [c5a, c5b, decide_true, decide_false, Bool.not_true, Bool.not_false])
   obtain rfl := zsome H
   go_wp2
   go_ret
   exact ⟨rfl, HS.pick [] (by decide) (by rfl)⟩
end Go.Proofs.Ytdcjcanobiohnaa.F
