/- Functions of the program and of the law, and that their calls do what is written here. -/
import Derived.Test.YtdcjcanobiohnaaZgFnExactReplyTextc
import Derived.Test.YtdcjcanobiohnaaZgFnExactReplyTextd
namespace Go.Proofs.Ytdcjcanobiohnaa.F
open Go.RowKit Go.Proofs.YtdcjcanobiohnaaW.PrintWords Go.Proofs.YtdcjcanobiohnaaW.PrintLast Go.Proofs.YtdcjcanobiohnaaW.PrintMore Go.Proofs.Ytdcjcanobiohnaa.Z
attribute [local go_sem] max2_int min2_int max_two min_two max_three min_three max_four min_four
set_option linter.unusedVariables false
set_option linter.unusedSimpArgs false
set_option maxRecDepth 100000
/-! ### impl_copyItem: function 136 -/
mutual
def impl_copyItem.l0 : Nat → (List S107) → Int → S107 → Option (S107)
  | 0, _, _, _ => none
  | k + 1, l28, x30, a0 => (if x30 < (a0.f2.length : Int) then (if 0 ≤ x30 then (if x30 < (a0.f2.length : Int) then ((impl_copyItem.f k (rd_T107 a0.f2 x30)).bind fun t203001 => (if l28.length + 1 ≤ 2932031007402 then (lets (l28 ++ ([t203001] : List S107)) fun y205002 => (impl_copyItem.l0 k y205002 (wrap64 (x30 + 1)) a0)) else none)) else none) else none) else (some (⟨a0.f0, a0.f1, l28⟩ : S107)))
def impl_copyItem.f : Nat → S107 → Option (S107)
  | 0, _ => none
  | k + 1, a0 => (impl_copyItem.l0 k [] 0 a0)
end
def impl_copyItem.T5 : Bool × List (List Nat × List Nat) := (true, [([], []), ([0], [0]), ([], []), ([2], [2]), ([3], [3]), ([1, 4, 3], [1, 4]), ([0, 1, 2, 3, 4, 5], []), ([6, 5, 5, 0, 1, 2, 3, 4, 5], [5, 6])])
theorem impl_copyItem.tT5 : rtab .any (opsOf Try.f136 5) = impl_copyItem.T5 := by kernel_rfl
set_option maxHeartbeats 16000000 in
theorem impl_copyItem.calls_ (K : Nat) : ∀ {k : Nat} (hK : k ≤ K) {a0 : S107} {Ap0 : Option Addr} {np0 cp0 : Nat} {r : S107} {w : World} (h : impl_copyItem.f k a0 = some r) (gp0 : k107.C w Ap0 np0 a0.f2) (lp0 : np0 ≤ cp0),
    Calls Try.prog 136 #[.agg #[.int .i64 a0.f0, .string a0.f1, .slice Ap0 np0 cp0]] w (fun e w' => ∃ v0_ : Value, e = .returned (.agg #[.int .i64 r.f0, .string r.f1, v0_]) ∧ Hp noFP w w' [.own (Zd.slice 107 q107) r.f2 [v0_]]) := by
  induction K with
  | zero =>
    intro k hK a0 Ap0 np0 cp0 r w h gp0 lp0
    obtain rfl : k = 0 := by omega
    exact absurd h (by simp [impl_copyItem.f])
  | succ K IH =>
    intro k hK a0 Ap0 np0 cp0 r w h gp0 lp0
    cases k with
    | zero => exact absurd h (by simp [impl_copyItem.f])
    | succ k =>
    have HK0 : Aside0 (k ≤ K) := ⟨by omega⟩
    clear hK
    obtain rfl := C_len gp0
    have HS := Hp.start w
    have H := Aside0.mk h
    clear h
    simp only [impl_copyItem.f] at H
    go_enter Try.func136, Try.ntmps136
    go_wp2_with (first | ((with_reducible refine gate_dst (N := 1) rfl ?_); refine ev_box rfl HS (by first | (go_simp; done) | (go_simp; rfl)) rfl ?_; clear HS; (try clear F); intro g1 w1 HS; replace HS : Hp noFP w _ [.box g1 [.int .i64 a0.f0, .string a0.f1, .slice Ap0 a0.f2.length cp0] 107] := HS; have F := HS.boxes; simp only [boxFacts, and_true] at F) | ((with_reducible refine gate_dst (N := 2) rfl ?_); refine ev_box rfl HS (by first | (go_simp; done) | (go_simp; rfl)) rfl ?_; clear HS; (try clear F); intro g2 w2 HS; replace HS : Hp noFP w _ [.box g1 [.int .i64 a0.f0, .string a0.f1, .slice Ap0 a0.f2.length cp0] 107, .box g2 [.int .i64 0, .string (⟨#[]⟩ : ByteArray), .slice none 0 0] 107] := HS; have F := HS.boxes; simp only [boxFacts, and_true] at F) | ((with_reducible refine gate_dst (N := 3) rfl ?_); refine ev_box rfl HS (by first | (go_simp; done) | (go_simp; rfl)) rfl ?_; clear HS; (try clear F); intro g3 w3 HS; replace HS : Hp noFP w _ [.box g1 [.int .i64 a0.f0, .string a0.f1, .slice Ap0 a0.f2.length cp0] 107, .box g2 [.int .i64 0, .string (⟨#[]⟩ : ByteArray), .slice none 0 0] 107, .box g3 [.int .i64 0, .string (⟨#[]⟩ : ByteArray), .slice none 0 0] 107] := HS; have F := HS.boxes; simp only [boxFacts, and_true] at F) | ((with_reducible refine gate_store (p := 3) rfl ?_); refine ev_store rfl 2 0 HS (seg := [.int .i64 a0.f0, .string a0.f1, .slice none 0 0]) rfl rfl rfl rfl rfl rfl (by kernel_rfl) (by simp [wrt]) (by simp [Value.oneCell']) ?_; clear HS; (try clear F); intro w7 HS; replace HS : Hp noFP w _ [.box g1 [.int .i64 a0.f0, .string a0.f1, .slice Ap0 a0.f2.length cp0] 107, .box g2 [.int .i64 0, .string (⟨#[]⟩ : ByteArray), .slice none 0 0] 107, .box g3 [.int .i64 a0.f0, .string a0.f1, .slice none 0 0] 107] := HS; have F := HS.boxes; simp only [boxFacts, and_true] at F))
    replace HS := HS.nil 107 q107
    go_loopg [14] k (fun kq v_14 w' => ∃ (l28 : List S107) (v29 : Value) (x30 : Int), v_14 = .int .i64 x30 ∧ Aside0 (impl_copyItem.l0 kq l28 x30 a0 = some r) ∧ Aside0 (kq ≤ k) ∧ Hp noFP w w' [.box g1 [.int .i64 a0.f0, .string a0.f1, .slice Ap0 a0.f2.length cp0] 107, .box g2 [.int .i64 0, .string (⟨#[]⟩ : ByteArray), .slice none 0 0] 107, .box g3 [.int .i64 a0.f0, .string a0.f1, v29] 107, .own (Zd.slice 107 q107) l28 [v29]])
    case atStart => exact ⟨_, _, _, rfl, H, ⟨Nat.le_refl _⟩, HS⟩
    case round =>
     clear HS H; (try clear F)
     obtain ⟨l28, v29, x30, rfl, H, HKk27, HS⟩ := hrel
     obtain ⟨B29, d29, rfl, m29⟩ := HS.form 3 rfl
     have F := HS.boxes; simp only [boxFacts, and_true] at F
     cases gk with
     | zero => exact absurd H.out (by simp [impl_copyItem.l0])
     | succ k27 =>
      simp only [impl_copyItem.l0] at H
      by_cases c32 : x30 < (a0.f2.length : Int)
      · replace H := zpos c32 H
        replace c32 := eq_true c32
        by_cases c33 : 0 ≤ x30
        case neg => exact zno c33 H
        replace H := zpos c33 H
        replace c33 := eq_true c33
        by_cases c34 : x30 < (a0.f2.length : Int)
        case neg => exact zno c34 H
        replace H := zpos c34 H
        replace c34 := eq_true c34
        obtain ⟨ad35, B35_2, d35_2, rfl, e35_0, e35_1, e35_2, m35_2, y35_2⟩ := at_T107 gp0 x30 (of_eq_true c33) (of_eq_true c34)
        have e35_0_35 := HS.keepc e35_0
        have e35_1_35 := HS.keepc e35_1
        have e35_2_35 := HS.keepc e35_2
        go_wp2_with (first | ((with_reducible refine gate_dst (N := 5) rfl ?_); refine ev_box rfl HS (by first | (go_simp; done) | (go_simp; rfl)) rfl ?_; clear HS; (try clear F); intro g5 w5 HS; replace HS : Hp noFP w _ [.box g1 [.int .i64 a0.f0, .string a0.f1, .slice (some ad35) a0.f2.length cp0] 107, .box g2 [.int .i64 0, .string (⟨#[]⟩ : ByteArray), .slice none 0 0] 107, .box g3 [.int .i64 a0.f0, .string a0.f1, .slice B29 l28.length d29] 107, .own (Zd.slice 107 q107) l28 [.slice B29 l28.length d29], .box g5 [.int .i64 0, .string (⟨#[]⟩ : ByteArray), .slice none 0 0] 107] := HS; have F := HS.boxes; simp only [boxFacts, and_true] at F) | ((with_reducible refine gate_store (p := 5) rfl ?_); refine ev_store rfl 4 0 HS (seg := [.int .i64 ((rd_T107 a0.f2 x30).f0), .string ((rd_T107 a0.f2 x30).f1), .slice B35_2 (rd_T107 a0.f2 x30).f2.length d35_2]) rfl rfl rfl rfl rfl rfl (by kernel_rfl) (by simp [wrt]) (by simp [Value.oneCell']) ?_; clear HS; (try clear F); intro w38 HS; replace HS : Hp noFP w _ [.box g1 [.int .i64 a0.f0, .string a0.f1, .slice (some ad35) a0.f2.length cp0] 107, .box g2 [.int .i64 0, .string (⟨#[]⟩ : ByteArray), .slice none 0 0] 107, .box g3 [.int .i64 a0.f0, .string a0.f1, .slice B29 l28.length d29] 107, .own (Zd.slice 107 q107) l28 [.slice B29 l28.length d29], .box g5 [.int .i64 ((rd_T107 a0.f2 x30).f0), .string ((rd_T107 a0.f2 x30).f1), .slice B35_2 (rd_T107 a0.f2 x30).f2.length d35_2] 107] := HS; have F := HS.boxes; simp only [boxFacts, and_true] at F))
        obtain ⟨t203001, ht203001, H⟩ := zbind H
        by_cases c205001 : l28.length + 1 ≤ 2932031007402
        case neg => exact zno c205001 H
        replace H := zpos c205001 H
        replace c205001 := eq_true c205001
        obtain ⟨y205002, e_y205002, H⟩ := zlets H
        refine dr_start2 [.box g1 [.int .i64 a0.f0, .string a0.f1, .slice (some ad35) a0.f2.length cp0] 107, .box g2 [.int .i64 0, .string (⟨#[]⟩ : ByteArray), .slice none 0 0] 107, .box g3 [.int .i64 a0.f0, .string a0.f1, .slice B29 l28.length d29] 107, .emp, .box g5 [.int .i64 ((rd_T107 a0.f2 x30).f0), .string ((rd_T107 a0.f2 x30).f1), .slice B35_2 (rd_T107 a0.f2 x30).f2.length d35_2] 107] [7] HS (HS.arr [some 0, some 1, some 2, none, some 4] (by decide)) #[false, false, false, false, false, false, false, false] (by kernel_rfl) rfl rfl impl_copyItem.tT5 (fun w41 HT HS HH => ?_)
        (try clear F)
        refine drq_of [(0, some 18), (1, some 19), (2, some 20)] ?_
        repeat (first | (refine drq_pure HT (v := ?_) (a' := ?_) rfl rfl (by kernel_rfl) (fun _ _ _ h => h) (.inl ⟨by rfl, ?_⟩) ?_ ?_; rotate_left; (intro w'; go_simp; with_reducible rfl); rotate_left; (simp only [Act.put, List.setIfInBounds_toArray, List.set_cons_zero, List.set_cons_succ, i64_w, i32_w]; rfl)) | (refine drq_take HT HH (v := ?_) (a' := ?_) rfl rfl (by kernel_rfl) (fun _ _ _ h => h) (.inl ⟨by rfl, ?_⟩) ?_ ?_; rotate_left; (rintro w' ⟨rs', HS'⟩; have F := HS'.boxes; simp only [boxFacts, List.cons_append, List.nil_append, and_true] at F; go_simp; with_reducible rfl); rotate_left; (simp only [Act.put, List.setIfInBounds_toArray, List.set_cons_zero, List.set_cons_succ, i64_w, i32_w]; rfl)))
        refine drq_end ?_
        refine dr_one 3 HT rfl (by kernel_rfl) (by decide) (fun K hK => ?_)
        refine goes_ Try.func136 (by kernel_rfl) rfl #[.agg #[.int .i64 ((rd_T107 a0.f2 x30).f0), .string ((rd_T107 a0.f2 x30).f1), .slice B35_2 (rd_T107 a0.f2 x30).f2.length d35_2]] (by rfl) rfl rfl (by simp only [List.map_toArray, List.map_cons, List.map_nil]; rfl) ?_; refine (IH (by have := HK0.out; have := HKk27.out; omega) ht203001.out (HS.ro y35_2) m35_2).mono ?_; rintro _ wt203001 ⟨v203002, rfl, HQ⟩; refine ⟨_, rfl, ?_⟩; replace HS := HS.call HQ; clear HQ; (try clear F); obtain ⟨B203002, d203002, rfl, m203002⟩ := HS.form 5 rfl
        replace HS : Hp noFP w _ [.box g1 [.int .i64 a0.f0, .string a0.f1, .slice (some ad35) a0.f2.length cp0] 107, .box g2 [.int .i64 0, .string (⟨#[]⟩ : ByteArray), .slice none 0 0] 107, .box g3 [.int .i64 a0.f0, .string a0.f1, .slice B29 l28.length d29] 107, .own (Zd.slice 107 q107) l28 [.slice B29 l28.length d29], .box g5 [.int .i64 ((rd_T107 a0.f2 x30).f0), .string ((rd_T107 a0.f2 x30).f1), .slice B35_2 (rd_T107 a0.f2 x30).f2.length d35_2] 107, .own (Zd.slice 107 q107) t203001.f2 [.slice B203002 t203001.f2.length d203002]] := HS
        have F := HS.boxes; simp only [boxFacts, and_true] at F
        refine hK.out _ _ ⟨[], HS.arr [some 0, some 1, some 2, none, some 4] (by decide)⟩ (fun HH => ?_)
        clear hK K
        refine norm_ (a' := ?_) ?_ ?_
        rotate_left
        · show Act.put _ (some 21) _ = _; simp only [Act.put, List.setIfInBounds_toArray, List.set_cons_zero, List.set_cons_succ, i64_w, i32_w]; rfl
        refine dr_one 4 HT rfl (by kernel_rfl) (by decide) (fun K hK => ?_)
        refine if_wp (by rfl) ?_; refine wp_lit q107 [5] ([t203001] : List S107) ([.int .i64 t203001.f0, .string t203001.f1, .slice B203002 t203001.f2.length d203002] ++ []) HS (by first | (go_simp; done) | (go_simp; rfl)) rfl rfl (Nat.le_of_ble_eq_true rfl) (MadeL.cons (js1 := [5]) (c := [.int .i64 t203001.f0, .string t203001.f1, .slice B203002 t203001.f2.length d203002]) rfl (fun S hd hh => q107_pack (x := t203001) hd (hh 5 (.own (Zd.slice 107 q107) t203001.f2 [.slice B203002 t203001.f2.length d203002]) rfl) (by decide)) MadeL.nil (by decide)) ?_; clear HS; (try clear F); intro v204001 w204001 HS; obtain ⟨B204001, d204001, rfl, m204001⟩ := HS.formn 1 6 rfl rfl
        replace HS : Hp noFP w _ [.box g1 [.int .i64 a0.f0, .string a0.f1, .slice (some ad35) a0.f2.length cp0] 107, .box g2 [.int .i64 0, .string (⟨#[]⟩ : ByteArray), .slice none 0 0] 107, .box g3 [.int .i64 a0.f0, .string a0.f1, .slice B29 l28.length d29] 107, .own (Zd.slice 107 q107) l28 [.slice B29 l28.length d29], .box g5 [.int .i64 ((rd_T107 a0.f2 x30).f0), .string ((rd_T107 a0.f2 x30).f1), .slice B35_2 (rd_T107 a0.f2 x30).f2.length d35_2] 107, .emp, .own (Zd.slice 107 q107) ([t203001] : List S107) [.slice B204001 1 d204001]] := HS
        have F := HS.boxes; simp only [boxFacts, and_true] at F
        refine hK.out _ _ ⟨[], HS.arr [some 0, some 1, some 2, none, some 4] (by decide)⟩ (fun HH => ?_)
        clear hK K
        refine norm_ (a' := ?_) ?_ ?_
        rotate_left
        · show Act.put _ (some 22) _ = _; simp only [Act.put, List.setIfInBounds_toArray, List.set_cons_zero, List.set_cons_succ, i64_w, i32_w]; rfl
        refine dr_one 5 HT rfl (by kernel_rfl) (by decide) (fun K hK => ?_)
        refine if_wp (by rfl) ?_; refine wp_append q107 3 6 HS rfl rfl (by decide) rfl rfl rfl Try.underlying105 info107 rfl (by decide) (by decide) (by have := of_eq_true c205001; first | omega | (simp only [List.length_cons, List.length_nil, List.length_append, Nat.zero_add] at this ⊢; omega)) ?_; clear HS; (try clear F); intro v205002 w205002 HS; rw [← e_y205002.out] at HS; obtain ⟨B205002, d205002, rfl, m205002⟩ := HS.form 7 rfl
        replace HS : Hp noFP w _ [.box g1 [.int .i64 a0.f0, .string a0.f1, .slice (some ad35) a0.f2.length cp0] 107, .box g2 [.int .i64 0, .string (⟨#[]⟩ : ByteArray), .slice none 0 0] 107, .box g3 [.int .i64 a0.f0, .string a0.f1, .slice B29 l28.length d29] 107, .emp, .box g5 [.int .i64 ((rd_T107 a0.f2 x30).f0), .string ((rd_T107 a0.f2 x30).f1), .slice B35_2 (rd_T107 a0.f2 x30).f2.length d35_2] 107, .emp, .emp, .own (Zd.slice 107 q107) y205002 [.slice B205002 y205002.length d205002]] := HS
        have F := HS.boxes; simp only [boxFacts, and_true] at F
        refine hK.out _ _ ⟨[], HS.arr [some 0, some 1, some 2, none, some 4] (by decide)⟩ (fun HH => ?_)
        clear hK K
        refine norm_ (a' := ?_) ?_ ?_
        rotate_left
        · show Act.put _ (some 23) _ = _; simp only [Act.put, List.setIfInBounds_toArray, List.set_cons_zero, List.set_cons_succ, i64_w, i32_w]; rfl
        refine drq_of [(6, some 24)] ?_
        repeat (first | (refine drq_pure HT (v := ?_) (a' := ?_) rfl rfl (by kernel_rfl) (fun _ _ _ h => h) (.inl ⟨by rfl, ?_⟩) ?_ ?_; rotate_left; (intro w'; go_simp; with_reducible rfl); rotate_left; (simp only [Act.put, List.setIfInBounds_toArray, List.set_cons_zero, List.set_cons_succ, i64_w, i32_w]; rfl)))
        refine drq_end ?_
        refine dr_last 7 HT rfl (by kernel_rfl) (by decide) (fun K hK => ?_)
        refine if_wp (by rfl) ?_; refine wp_store 2 2 HS (seg := [.slice B205002 y205002.length d205002]) rfl rfl rfl rfl rfl rfl (by kernel_rfl) (by simp [wrt]) (by simp [Value.oneCell']) ?_; clear HS; (try clear F); intro w207001 HS
        replace HS : Hp noFP w _ [.box g1 [.int .i64 a0.f0, .string a0.f1, .slice (some ad35) a0.f2.length cp0] 107, .box g2 [.int .i64 0, .string (⟨#[]⟩ : ByteArray), .slice none 0 0] 107, .box g3 [.int .i64 a0.f0, .string a0.f1, .slice B205002 y205002.length d205002] 107, .emp, .box g5 [.int .i64 ((rd_T107 a0.f2 x30).f0), .string ((rd_T107 a0.f2 x30).f1), .slice B35_2 (rd_T107 a0.f2 x30).f2.length d35_2] 107, .emp, .emp, .own (Zd.slice 107 q107) y205002 [.slice B205002 y205002.length d205002]] := HS
        have F := HS.boxes; simp only [boxFacts, and_true] at F
        refine hK.out _ _ ?_
        clear hK K
        refine done_ (done_of HT.out (by kernel_rfl)) ?_
        go_wp2
        go_roundg k27
        case measure => have := HK0.out; have := HKk27.out; omega
        case rel => exact ⟨_, _, _, rfl, H, ⟨by have := HK0.out; have := HKk27.out; omega⟩, HS.pick [0, 1, 2, 7] (by decide) (by rfl)⟩
      · replace H := zneg c32 H
        replace c32 := eq_false c32
        obtain rfl := zsome H
        go_wp2_with (first | ((with_reducible refine gate_store (p := 2) rfl ?_); refine ev_store rfl 1 0 HS (seg := [.int .i64 a0.f0, .string a0.f1, .slice B29 l28.length d29]) rfl rfl rfl rfl rfl rfl (by kernel_rfl) (by simp [wrt]) (by simp [Value.oneCell']) ?_; clear HS; (try clear F); intro w43 HS; replace HS : Hp noFP w _ [.box g1 [.int .i64 a0.f0, .string a0.f1, .slice Ap0 a0.f2.length cp0] 107, .box g2 [.int .i64 a0.f0, .string a0.f1, .slice B29 l28.length d29] 107, .box g3 [.int .i64 a0.f0, .string a0.f1, .slice B29 l28.length d29] 107, .own (Zd.slice 107 q107) l28 [.slice B29 l28.length d29]] := HS; have F := HS.boxes; simp only [boxFacts, and_true] at F))
        exact bodyPost_ret (results_single rfl (.cell _ _ _ _ _ rfl (HS.boxAt (i := 1) rfl) Try.underlying107 rfl (by kernel_rfl) .nil)) rfl ⟨_, rfl, HS.pick [3] (by decide) (by rfl)⟩
theorem impl_copyItem.calls {k : Nat} {a0 : S107} {Ap0 : Option Addr} {np0 cp0 : Nat} {r : S107} {w : World} (h : impl_copyItem.f k a0 = some r) (gp0 : k107.C w Ap0 np0 a0.f2) (lp0 : np0 ≤ cp0) :
    Calls Try.prog 136 #[.agg #[.int .i64 a0.f0, .string a0.f1, .slice Ap0 np0 cp0]] w (fun e w' => ∃ v0_ : Value, e = .returned (.agg #[.int .i64 r.f0, .string r.f1, v0_]) ∧ Hp noFP w w' [.own (Zd.slice 107 q107) r.f2 [v0_]]) := impl_copyItem.calls_ k (Nat.le_refl k) h gp0 lp0
/-! ### impl_ListItem: function 73 -/
def impl_ListItem.l0 : Nat → (List S107) → Int → (List S107) → Option (S107)
  | 0, _, _, _ => none
  | k + 1, l26, x28, a0 => (if x28 < (a0.length : Int) then (if 0 ≤ x28 then (if x28 < (a0.length : Int) then ((impl_copyItem.f k (rd_T107 a0 x28)).bind fun t203001 => (if l26.length + 1 ≤ 2932031007402 then (lets (l26 ++ ([t203001] : List S107)) fun y205002 => (impl_ListItem.l0 k y205002 (wrap64 (x28 + 1)) a0)) else none)) else none) else none) else (some (⟨48, (⟨#[]⟩ : ByteArray), l26⟩ : S107)))
def impl_ListItem.f (k : Nat) (a0 : (List S107)) : Option (S107) := (impl_ListItem.l0 k [] 0 a0)
def impl_ListItem.T5 : Bool × List (List Nat × List Nat) := (true, [([], []), ([0], [0]), ([], []), ([2], [2]), ([3], [3]), ([1, 4, 3], [1, 4]), ([0, 1, 2, 3, 4, 5], []), ([6, 5, 5, 0, 1, 2, 3, 4, 5], [5, 6])])
theorem impl_ListItem.tT5 : rtab .any (opsOf Try.f73 5) = impl_ListItem.T5 := by kernel_rfl
set_option maxHeartbeats 16000000 in
theorem impl_ListItem.calls {k : Nat} {a0 : (List S107)} {Ap0 : Option Addr} {np0 cp0 : Nat} {r : S107} {w : World} (h : impl_ListItem.f k a0 = some r) (gp0 : k107.C w Ap0 np0 a0) (lp0 : np0 ≤ cp0) :
    Calls Try.prog 73 #[.slice Ap0 np0 cp0] w (fun e w' => ∃ v0_ : Value, e = .returned (.agg #[.int .i64 r.f0, .string r.f1, v0_]) ∧ Hp noFP w w' [.own (Zd.slice 107 q107) r.f2 [v0_]]) := by
 obtain rfl := C_len gp0
 have HS := Hp.start w
 have H := Aside0.mk h
 clear h
 unfold impl_ListItem.f at H
 go_enter Try.func73, Try.ntmps73
 go_wp2_with (first | ((with_reducible refine gate_dst (N := 2) rfl ?_); refine ev_box rfl HS (by first | (go_simp; done) | (go_simp; rfl)) rfl ?_; clear HS; (try clear F); intro g2 w2 HS; replace HS : Hp noFP w _ [.box g2 [.int .i64 0, .string (⟨#[]⟩ : ByteArray), .slice none 0 0] 107] := HS; have F := HS.boxes; simp only [boxFacts, and_true] at F) | ((with_reducible refine gate_dst (N := 3) rfl ?_); refine ev_box rfl HS (by first | (go_simp; done) | (go_simp; rfl)) rfl ?_; clear HS; (try clear F); intro g3 w3 HS; replace HS : Hp noFP w _ [.box g2 [.int .i64 0, .string (⟨#[]⟩ : ByteArray), .slice none 0 0] 107, .box g3 [.int .i64 0, .string (⟨#[]⟩ : ByteArray), .slice none 0 0] 107] := HS; have F := HS.boxes; simp only [boxFacts, and_true] at F) | ((with_reducible refine gate_store (p := 3) rfl ?_); refine ev_store rfl 1 0 HS (seg := [.int .i64 48, .string (⟨#[]⟩ : ByteArray), .slice none 0 0]) rfl rfl rfl rfl rfl rfl (by kernel_rfl) (by simp [wrt]) (by simp [Value.oneCell']) ?_; clear HS; (try clear F); intro w5 HS; replace HS : Hp noFP w _ [.box g2 [.int .i64 0, .string (⟨#[]⟩ : ByteArray), .slice none 0 0] 107, .box g3 [.int .i64 48, .string (⟨#[]⟩ : ByteArray), .slice none 0 0] 107] := HS; have F := HS.boxes; simp only [boxFacts, and_true] at F))
 replace HS := HS.nil 107 q107
 go_loopg [9] k (fun kq v_9 w' => ∃ (l26 : List S107) (v27 : Value) (x28 : Int), v_9 = .int .i64 x28 ∧ Aside0 (impl_ListItem.l0 kq l26 x28 a0 = some r) ∧ Aside0 (kq ≤ k) ∧ Hp noFP w w' [.box g2 [.int .i64 0, .string (⟨#[]⟩ : ByteArray), .slice none 0 0] 107, .box g3 [.int .i64 48, .string (⟨#[]⟩ : ByteArray), v27] 107, .own (Zd.slice 107 q107) l26 [v27]])
 case atStart => exact ⟨_, _, _, rfl, H, ⟨Nat.le_refl _⟩, HS⟩
 case round =>
  clear HS H; (try clear F)
  obtain ⟨l26, v27, x28, rfl, H, HKk25, HS⟩ := hrel
  obtain ⟨B27, d27, rfl, m27⟩ := HS.form 2 rfl
  have F := HS.boxes; simp only [boxFacts, and_true] at F
  cases gk with
  | zero => exact absurd H.out (by simp [impl_ListItem.l0])
  | succ k25 =>
   simp only [impl_ListItem.l0] at H
   by_cases c30 : x28 < (a0.length : Int)
   · replace H := zpos c30 H
     replace c30 := eq_true c30
     by_cases c31 : 0 ≤ x28
     case neg => exact zno c31 H
     replace H := zpos c31 H
     replace c31 := eq_true c31
     by_cases c32 : x28 < (a0.length : Int)
     case neg => exact zno c32 H
     replace H := zpos c32 H
     replace c32 := eq_true c32
     obtain ⟨ad33, B33_2, d33_2, rfl, e33_0, e33_1, e33_2, m33_2, y33_2⟩ := at_T107 gp0 x28 (of_eq_true c31) (of_eq_true c32)
     have e33_0_33 := HS.keepc e33_0
     have e33_1_33 := HS.keepc e33_1
     have e33_2_33 := HS.keepc e33_2
     go_wp2_with (first | ((with_reducible refine gate_dst (N := 5) rfl ?_); refine ev_box rfl HS (by first | (go_simp; done) | (go_simp; rfl)) rfl ?_; clear HS; (try clear F); intro g5 w5 HS; replace HS : Hp noFP w _ [.box g2 [.int .i64 0, .string (⟨#[]⟩ : ByteArray), .slice none 0 0] 107, .box g3 [.int .i64 48, .string (⟨#[]⟩ : ByteArray), .slice B27 l26.length d27] 107, .own (Zd.slice 107 q107) l26 [.slice B27 l26.length d27], .box g5 [.int .i64 0, .string (⟨#[]⟩ : ByteArray), .slice none 0 0] 107] := HS; have F := HS.boxes; simp only [boxFacts, and_true] at F) | ((with_reducible refine gate_store (p := 5) rfl ?_); refine ev_store rfl 3 0 HS (seg := [.int .i64 ((rd_T107 a0 x28).f0), .string ((rd_T107 a0 x28).f1), .slice B33_2 (rd_T107 a0 x28).f2.length d33_2]) rfl rfl rfl rfl rfl rfl (by kernel_rfl) (by simp [wrt]) (by simp [Value.oneCell']) ?_; clear HS; (try clear F); intro w36 HS; replace HS : Hp noFP w _ [.box g2 [.int .i64 0, .string (⟨#[]⟩ : ByteArray), .slice none 0 0] 107, .box g3 [.int .i64 48, .string (⟨#[]⟩ : ByteArray), .slice B27 l26.length d27] 107, .own (Zd.slice 107 q107) l26 [.slice B27 l26.length d27], .box g5 [.int .i64 ((rd_T107 a0 x28).f0), .string ((rd_T107 a0 x28).f1), .slice B33_2 (rd_T107 a0 x28).f2.length d33_2] 107] := HS; have F := HS.boxes; simp only [boxFacts, and_true] at F))
     obtain ⟨t203001, ht203001, H⟩ := zbind H
     by_cases c205001 : l26.length + 1 ≤ 2932031007402
     case neg => exact zno c205001 H
     replace H := zpos c205001 H
     replace c205001 := eq_true c205001
     obtain ⟨y205002, e_y205002, H⟩ := zlets H
     refine dr_start2 [.box g2 [.int .i64 0, .string (⟨#[]⟩ : ByteArray), .slice none 0 0] 107, .box g3 [.int .i64 48, .string (⟨#[]⟩ : ByteArray), .slice B27 l26.length d27] 107, .emp, .box g5 [.int .i64 ((rd_T107 a0 x28).f0), .string ((rd_T107 a0 x28).f1), .slice B33_2 (rd_T107 a0 x28).f2.length d33_2] 107] [7] HS (HS.arr [some 0, some 1, none, some 3] (by decide)) #[false, false, false, false, false, false, false, false] (by kernel_rfl) rfl rfl impl_ListItem.tT5 (fun w39 HT HS HH => ?_)
     (try clear F)
     refine drq_of [(0, some 13), (1, some 14), (2, some 15)] ?_
     repeat (first | (refine drq_pure HT (v := ?_) (a' := ?_) rfl rfl (by kernel_rfl) (fun _ _ _ h => h) (.inl ⟨by rfl, ?_⟩) ?_ ?_; rotate_left; (intro w'; go_simp; with_reducible rfl); rotate_left; (simp only [Act.put, List.setIfInBounds_toArray, List.set_cons_zero, List.set_cons_succ, i64_w, i32_w]; rfl)) | (refine drq_take HT HH (v := ?_) (a' := ?_) rfl rfl (by kernel_rfl) (fun _ _ _ h => h) (.inl ⟨by rfl, ?_⟩) ?_ ?_; rotate_left; (rintro w' ⟨rs', HS'⟩; have F := HS'.boxes; simp only [boxFacts, List.cons_append, List.nil_append, and_true] at F; go_simp; with_reducible rfl); rotate_left; (simp only [Act.put, List.setIfInBounds_toArray, List.set_cons_zero, List.set_cons_succ, i64_w, i32_w]; rfl)))
     refine drq_end ?_
     refine dr_one 3 HT rfl (by kernel_rfl) (by decide) (fun K hK => ?_)
     refine goes_ Try.func136 (by kernel_rfl) rfl #[.agg #[.int .i64 ((rd_T107 a0 x28).f0), .string ((rd_T107 a0 x28).f1), .slice B33_2 (rd_T107 a0 x28).f2.length d33_2]] (by rfl) rfl rfl (by simp only [List.map_toArray, List.map_cons, List.map_nil]; rfl) ?_; refine (impl_copyItem.calls ht203001.out (HS.ro y33_2) m33_2).mono ?_; rintro _ wt203001 ⟨v203002, rfl, HQ⟩; refine ⟨_, rfl, ?_⟩; replace HS := HS.call HQ; clear HQ; (try clear F); obtain ⟨B203002, d203002, rfl, m203002⟩ := HS.form 4 rfl
     replace HS : Hp noFP w _ [.box g2 [.int .i64 0, .string (⟨#[]⟩ : ByteArray), .slice none 0 0] 107, .box g3 [.int .i64 48, .string (⟨#[]⟩ : ByteArray), .slice B27 l26.length d27] 107, .own (Zd.slice 107 q107) l26 [.slice B27 l26.length d27], .box g5 [.int .i64 ((rd_T107 a0 x28).f0), .string ((rd_T107 a0 x28).f1), .slice B33_2 (rd_T107 a0 x28).f2.length d33_2] 107, .own (Zd.slice 107 q107) t203001.f2 [.slice B203002 t203001.f2.length d203002]] := HS
     have F := HS.boxes; simp only [boxFacts, and_true] at F
     refine hK.out _ _ ⟨[], HS.arr [some 0, some 1, none, some 3] (by decide)⟩ (fun HH => ?_)
     clear hK K
     refine norm_ (a' := ?_) ?_ ?_
     rotate_left
     · show Act.put _ (some 16) _ = _; simp only [Act.put, List.setIfInBounds_toArray, List.set_cons_zero, List.set_cons_succ, i64_w, i32_w]; rfl
     refine dr_one 4 HT rfl (by kernel_rfl) (by decide) (fun K hK => ?_)
     refine if_wp (by rfl) ?_; refine wp_lit q107 [4] ([t203001] : List S107) ([.int .i64 t203001.f0, .string t203001.f1, .slice B203002 t203001.f2.length d203002] ++ []) HS (by first | (go_simp; done) | (go_simp; rfl)) rfl rfl (Nat.le_of_ble_eq_true rfl) (MadeL.cons (js1 := [4]) (c := [.int .i64 t203001.f0, .string t203001.f1, .slice B203002 t203001.f2.length d203002]) rfl (fun S hd hh => q107_pack (x := t203001) hd (hh 4 (.own (Zd.slice 107 q107) t203001.f2 [.slice B203002 t203001.f2.length d203002]) rfl) (by decide)) MadeL.nil (by decide)) ?_; clear HS; (try clear F); intro v204001 w204001 HS; obtain ⟨B204001, d204001, rfl, m204001⟩ := HS.formn 1 5 rfl rfl
     replace HS : Hp noFP w _ [.box g2 [.int .i64 0, .string (⟨#[]⟩ : ByteArray), .slice none 0 0] 107, .box g3 [.int .i64 48, .string (⟨#[]⟩ : ByteArray), .slice B27 l26.length d27] 107, .own (Zd.slice 107 q107) l26 [.slice B27 l26.length d27], .box g5 [.int .i64 ((rd_T107 a0 x28).f0), .string ((rd_T107 a0 x28).f1), .slice B33_2 (rd_T107 a0 x28).f2.length d33_2] 107, .emp, .own (Zd.slice 107 q107) ([t203001] : List S107) [.slice B204001 1 d204001]] := HS
     have F := HS.boxes; simp only [boxFacts, and_true] at F
     refine hK.out _ _ ⟨[], HS.arr [some 0, some 1, none, some 3] (by decide)⟩ (fun HH => ?_)
     clear hK K
     refine norm_ (a' := ?_) ?_ ?_
     rotate_left
     · show Act.put _ (some 17) _ = _; simp only [Act.put, List.setIfInBounds_toArray, List.set_cons_zero, List.set_cons_succ, i64_w, i32_w]; rfl
     refine dr_one 5 HT rfl (by kernel_rfl) (by decide) (fun K hK => ?_)
     refine if_wp (by rfl) ?_; refine wp_append q107 2 5 HS rfl rfl (by decide) rfl rfl rfl Try.underlying105 info107 rfl (by decide) (by decide) (by have := of_eq_true c205001; first | omega | (simp only [List.length_cons, List.length_nil, List.length_append, Nat.zero_add] at this ⊢; omega)) ?_; clear HS; (try clear F); intro v205002 w205002 HS; rw [← e_y205002.out] at HS; obtain ⟨B205002, d205002, rfl, m205002⟩ := HS.form 6 rfl
     replace HS : Hp noFP w _ [.box g2 [.int .i64 0, .string (⟨#[]⟩ : ByteArray), .slice none 0 0] 107, .box g3 [.int .i64 48, .string (⟨#[]⟩ : ByteArray), .slice B27 l26.length d27] 107, .emp, .box g5 [.int .i64 ((rd_T107 a0 x28).f0), .string ((rd_T107 a0 x28).f1), .slice B33_2 (rd_T107 a0 x28).f2.length d33_2] 107, .emp, .emp, .own (Zd.slice 107 q107) y205002 [.slice B205002 y205002.length d205002]] := HS
     have F := HS.boxes; simp only [boxFacts, and_true] at F
     refine hK.out _ _ ⟨[], HS.arr [some 0, some 1, none, some 3] (by decide)⟩ (fun HH => ?_)
     clear hK K
     refine norm_ (a' := ?_) ?_ ?_
     rotate_left
     · show Act.put _ (some 18) _ = _; simp only [Act.put, List.setIfInBounds_toArray, List.set_cons_zero, List.set_cons_succ, i64_w, i32_w]; rfl
     refine drq_of [(6, some 19)] ?_
     repeat (first | (refine drq_pure HT (v := ?_) (a' := ?_) rfl rfl (by kernel_rfl) (fun _ _ _ h => h) (.inl ⟨by rfl, ?_⟩) ?_ ?_; rotate_left; (intro w'; go_simp; with_reducible rfl); rotate_left; (simp only [Act.put, List.setIfInBounds_toArray, List.set_cons_zero, List.set_cons_succ, i64_w, i32_w]; rfl)))
     refine drq_end ?_
     refine dr_last 7 HT rfl (by kernel_rfl) (by decide) (fun K hK => ?_)
     refine if_wp (by rfl) ?_; refine wp_store 1 2 HS (seg := [.slice B205002 y205002.length d205002]) rfl rfl rfl rfl rfl rfl (by kernel_rfl) (by simp [wrt]) (by simp [Value.oneCell']) ?_; clear HS; (try clear F); intro w207001 HS
     replace HS : Hp noFP w _ [.box g2 [.int .i64 0, .string (⟨#[]⟩ : ByteArray), .slice none 0 0] 107, .box g3 [.int .i64 48, .string (⟨#[]⟩ : ByteArray), .slice B205002 y205002.length d205002] 107, .emp, .box g5 [.int .i64 ((rd_T107 a0 x28).f0), .string ((rd_T107 a0 x28).f1), .slice B33_2 (rd_T107 a0 x28).f2.length d33_2] 107, .emp, .emp, .own (Zd.slice 107 q107) y205002 [.slice B205002 y205002.length d205002]] := HS
     have F := HS.boxes; simp only [boxFacts, and_true] at F
     refine hK.out _ _ ?_
     clear hK K
     refine done_ (done_of HT.out (by kernel_rfl)) ?_
     go_wp2
     go_roundg k25
     case measure => have := HKk25.out; omega
     case rel => exact ⟨_, _, _, rfl, H, ⟨by have := HKk25.out; omega⟩, HS.pick [0, 1, 6] (by decide) (by rfl)⟩
   · replace H := zneg c30 H
     replace c30 := eq_false c30
     obtain rfl := zsome H
     go_wp2_with (first | ((with_reducible refine gate_store (p := 2) rfl ?_); refine ev_store rfl 0 0 HS (seg := [.int .i64 48, .string (⟨#[]⟩ : ByteArray), .slice B27 l26.length d27]) rfl rfl rfl rfl rfl rfl (by kernel_rfl) (by simp [wrt]) (by simp [Value.oneCell']) ?_; clear HS; (try clear F); intro w41 HS; replace HS : Hp noFP w _ [.box g2 [.int .i64 48, .string (⟨#[]⟩ : ByteArray), .slice B27 l26.length d27] 107, .box g3 [.int .i64 48, .string (⟨#[]⟩ : ByteArray), .slice B27 l26.length d27] 107, .own (Zd.slice 107 q107) l26 [.slice B27 l26.length d27]] := HS; have F := HS.boxes; simp only [boxFacts, and_true] at F))
     exact bodyPost_ret (results_single rfl (.cell _ _ _ _ _ rfl (HS.boxAt (i := 0) rfl) Try.underlying107 rfl (by kernel_rfl) .nil)) rfl ⟨_, rfl, HS.pick [2] (by decide) (by rfl)⟩
/-! ### impl_replyItem_1: function 126 -/
def impl_replyItem_1.f (k : Nat) (a0 : S171) : Option (S107) := ((impl_IntItem.f k a0.f0).bind fun t102001 => ((impl_IntItem.f k a0.f1).bind fun t105001 => ((impl_each_string_0.f k a0.f2).bind fun t108001 => ((impl_each_string_0.f k a0.f3).bind fun t111001 => ((impl_ListItem.f k ([t102001, t105001, t108001, t111001] : List S107)).bind fun t113001 => (some (⟨t113001.f0, t113001.f1, t113001.f2⟩ : S107)))))))
def impl_replyItem_1.T1 : Bool × List (List Nat × List Nat) := (true, [([], []), ([0], [0]), ([1], [1]), ([], []), ([3], [3]), ([4, 2], [4]), ([], []), ([6], [6]), ([7, 5], [7]), ([], []), ([9], [9]), ([10, 8], [10]), ([2, 5, 8, 11], [2, 5, 8, 11]), ([12, 11], [12]), ([13, 13, 0, 1, 2, 3, 4, 5, 6, 7, 8, 9, 10, 11, 12, 13], [13])])
theorem impl_replyItem_1.tT1 : rtab .any (opsOf Try.f126 1) = impl_replyItem_1.T1 := by kernel_rfl
set_option maxHeartbeats 16000000 in
theorem impl_replyItem_1.calls {k : Nat} {a0 : S171} {Ap0 : Option Addr} {np0 cp0 : Nat} {Ap1 : Option Addr} {np1 cp1 : Nat} {r : S107} {w : World} (h : impl_replyItem_1.f k a0 = some r) (gp0 : Kd.string.C w Ap0 np0 a0.f2) (lp0 : np0 ≤ cp0) (gp1 : Kd.string.C w Ap1 np1 a0.f3) (lp1 : np1 ≤ cp1) :
    Calls Try.prog 126 #[.agg #[.int .i64 a0.f0, .int .i64 a0.f1, .slice Ap0 np0 cp0, .slice Ap1 np1 cp1]] w (fun e w' => ∃ v0_ : Value, e = .returned (.agg #[.int .i64 r.f0, .string r.f1, v0_]) ∧ Hp noFP w w' [.own (Zd.slice 107 q107) r.f2 [v0_]]) := by
 obtain rfl := C_len gp0
 obtain rfl := C_len gp1
 have HS := Hp.start w
 have H := Aside0.mk h
 clear h
 unfold impl_replyItem_1.f at H
 go_enter Try.func126, Try.ntmps126
 go_wp2_with (first | ((with_reducible refine gate_dst (N := 1) rfl ?_); refine ev_box rfl HS (by first | (go_simp; done) | (go_simp; rfl)) rfl ?_; clear HS; (try clear F); intro g1 w1 HS; replace HS : Hp noFP w _ [.box g1 [.int .i64 a0.f0, .int .i64 a0.f1, .slice Ap0 a0.f2.length cp0, .slice Ap1 a0.f3.length cp1] 171] := HS; have F := HS.boxes; simp only [boxFacts, and_true] at F) | ((with_reducible refine gate_dst (N := 2) rfl ?_); refine ev_box rfl HS (by first | (go_simp; done) | (go_simp; rfl)) rfl ?_; clear HS; (try clear F); intro g2 w2 HS; replace HS : Hp noFP w _ [.box g1 [.int .i64 a0.f0, .int .i64 a0.f1, .slice Ap0 a0.f2.length cp0, .slice Ap1 a0.f3.length cp1] 171, .box g2 [.int .i64 0, .string (⟨#[]⟩ : ByteArray), .slice none 0 0] 107] := HS; have F := HS.boxes; simp only [boxFacts, and_true] at F))
 obtain ⟨t102001, ht102001, H⟩ := zbind H
 obtain ⟨t105001, ht105001, H⟩ := zbind H
 obtain ⟨t108001, ht108001, H⟩ := zbind H
 obtain ⟨t111001, ht111001, H⟩ := zbind H
 obtain ⟨t113001, ht113001, H⟩ := zbind H
 refine dr_start [14] HS #[false, false, false, false, false, false, false, false, false, false, false, false, false, false, false] (by kernel_rfl) rfl rfl impl_replyItem_1.tT1 (fun w6 HT HS HH => ?_)
 (try clear F)
 refine drq_of [(0, some 3), (1, some 4), (3, some 6), (4, some 7), (6, some 9), (7, some 10), (9, some 12), (10, some 13)] ?_
 repeat (first | (refine drq_pure HT (v := ?_) (a' := ?_) rfl rfl (by kernel_rfl) (fun _ _ _ h => h) (.inl ⟨by rfl, ?_⟩) ?_ ?_; rotate_left; (intro w'; go_simp; with_reducible rfl); rotate_left; (simp only [Act.put, List.setIfInBounds_toArray, List.set_cons_zero, List.set_cons_succ, i64_w, i32_w]; rfl)) | (refine drq_take HT HH (v := ?_) (a' := ?_) rfl rfl (by kernel_rfl) (fun _ _ _ h => h) (.inl ⟨by rfl, ?_⟩) ?_ ?_; rotate_left; (rintro w' ⟨rs', HS'⟩; have F := HS'.boxes; simp only [boxFacts, List.cons_append, List.nil_append, and_true] at F; go_simp; with_reducible rfl); rotate_left; (simp only [Act.put, List.setIfInBounds_toArray, List.set_cons_zero, List.set_cons_succ, i64_w, i32_w]; rfl)))
 refine drq_end ?_
 refine dr_one 2 HT rfl (by kernel_rfl) (by decide) (fun K hK => ?_)
 refine goes_ Try.func127 (by kernel_rfl) rfl #[.int .i64 a0.f0] (by rfl) rfl rfl (by simp only [List.map_toArray, List.map_cons, List.map_nil]; rfl) ?_; refine (impl_IntItem.calls ht102001.out).mono ?_; rintro _ wt102001 ⟨v102002, rfl, HQ⟩; refine ⟨_, rfl, ?_⟩; replace HS := HS.call HQ; clear HQ; (try clear F); obtain ⟨B102002, d102002, rfl, m102002⟩ := HS.form 2 rfl
 replace HS : Hp noFP w _ [.box g1 [.int .i64 a0.f0, .int .i64 a0.f1, .slice Ap0 a0.f2.length cp0, .slice Ap1 a0.f3.length cp1] 171, .box g2 [.int .i64 0, .string (⟨#[]⟩ : ByteArray), .slice none 0 0] 107, .own (Zd.slice 107 q107) t102001.f2 [.slice B102002 t102001.f2.length d102002]] := HS
 have F := HS.boxes; simp only [boxFacts, and_true] at F
 refine hK.out _ _ ⟨_, HS⟩ (fun HH => ?_)
 clear hK K
 refine norm_ (a' := ?_) ?_ ?_
 rotate_left
 · show Act.put _ (some 5) _ = _; simp only [Act.put, List.setIfInBounds_toArray, List.set_cons_zero, List.set_cons_succ, i64_w, i32_w]; rfl
 refine dr_one 5 HT rfl (by kernel_rfl) (by decide) (fun K hK => ?_)
 refine goes_ Try.func127 (by kernel_rfl) rfl #[.int .i64 a0.f1] (by rfl) rfl rfl (by simp only [List.map_toArray, List.map_cons, List.map_nil]; rfl) ?_; refine (impl_IntItem.calls ht105001.out).mono ?_; rintro _ wt105001 ⟨v105002, rfl, HQ⟩; refine ⟨_, rfl, ?_⟩; replace HS := HS.call HQ; clear HQ; (try clear F); obtain ⟨B105002, d105002, rfl, m105002⟩ := HS.form 3 rfl
 replace HS : Hp noFP w _ [.box g1 [.int .i64 a0.f0, .int .i64 a0.f1, .slice Ap0 a0.f2.length cp0, .slice Ap1 a0.f3.length cp1] 171, .box g2 [.int .i64 0, .string (⟨#[]⟩ : ByteArray), .slice none 0 0] 107, .own (Zd.slice 107 q107) t102001.f2 [.slice B102002 t102001.f2.length d102002], .own (Zd.slice 107 q107) t105001.f2 [.slice B105002 t105001.f2.length d105002]] := HS
 have F := HS.boxes; simp only [boxFacts, and_true] at F
 refine hK.out _ _ ⟨_, HS⟩ (fun HH => ?_)
 clear hK K
 refine norm_ (a' := ?_) ?_ ?_
 rotate_left
 · show Act.put _ (some 8) _ = _; simp only [Act.put, List.setIfInBounds_toArray, List.set_cons_zero, List.set_cons_succ, i64_w, i32_w]; rfl
 refine dr_one 8 HT rfl (by kernel_rfl) (by decide) (fun K hK => ?_)
 refine goes_ Try.func128 (by kernel_rfl) rfl #[.slice Ap0 a0.f2.length cp0, .func (.func 74) #[] #[]] (by rfl) rfl rfl (by simp only [List.map_toArray, List.map_cons, List.map_nil]; rfl) ?_; refine (impl_each_string_0.calls ht108001.out (HS.ro gp0) lp0).mono ?_; rintro _ wt108001 ⟨v108002, rfl, HQ⟩; refine ⟨_, rfl, ?_⟩; replace HS := HS.call HQ; clear HQ; (try clear F); obtain ⟨B108002, d108002, rfl, m108002⟩ := HS.form 4 rfl
 replace HS : Hp noFP w _ [.box g1 [.int .i64 a0.f0, .int .i64 a0.f1, .slice Ap0 a0.f2.length cp0, .slice Ap1 a0.f3.length cp1] 171, .box g2 [.int .i64 0, .string (⟨#[]⟩ : ByteArray), .slice none 0 0] 107, .own (Zd.slice 107 q107) t102001.f2 [.slice B102002 t102001.f2.length d102002], .own (Zd.slice 107 q107) t105001.f2 [.slice B105002 t105001.f2.length d105002], .own (Zd.slice 107 q107) t108001.f2 [.slice B108002 t108001.f2.length d108002]] := HS
 have F := HS.boxes; simp only [boxFacts, and_true] at F
 refine hK.out _ _ ⟨_, HS⟩ (fun HH => ?_)
 clear hK K
 refine norm_ (a' := ?_) ?_ ?_
 rotate_left
 · show Act.put _ (some 11) _ = _; simp only [Act.put, List.setIfInBounds_toArray, List.set_cons_zero, List.set_cons_succ, i64_w, i32_w]; rfl
 refine dr_one 11 HT rfl (by kernel_rfl) (by decide) (fun K hK => ?_)
 refine goes_ Try.func128 (by kernel_rfl) rfl #[.slice Ap1 a0.f3.length cp1, .func (.func 74) #[] #[]] (by rfl) rfl rfl (by simp only [List.map_toArray, List.map_cons, List.map_nil]; rfl) ?_; refine (impl_each_string_0.calls ht111001.out (HS.ro gp1) lp1).mono ?_; rintro _ wt111001 ⟨v111002, rfl, HQ⟩; refine ⟨_, rfl, ?_⟩; replace HS := HS.call HQ; clear HQ; (try clear F); obtain ⟨B111002, d111002, rfl, m111002⟩ := HS.form 5 rfl
 replace HS : Hp noFP w _ [.box g1 [.int .i64 a0.f0, .int .i64 a0.f1, .slice Ap0 a0.f2.length cp0, .slice Ap1 a0.f3.length cp1] 171, .box g2 [.int .i64 0, .string (⟨#[]⟩ : ByteArray), .slice none 0 0] 107, .own (Zd.slice 107 q107) t102001.f2 [.slice B102002 t102001.f2.length d102002], .own (Zd.slice 107 q107) t105001.f2 [.slice B105002 t105001.f2.length d105002], .own (Zd.slice 107 q107) t108001.f2 [.slice B108002 t108001.f2.length d108002], .own (Zd.slice 107 q107) t111001.f2 [.slice B111002 t111001.f2.length d111002]] := HS
 have F := HS.boxes; simp only [boxFacts, and_true] at F
 refine hK.out _ _ ⟨_, HS⟩ (fun HH => ?_)
 clear hK K
 refine norm_ (a' := ?_) ?_ ?_
 rotate_left
 · show Act.put _ (some 14) _ = _; simp only [Act.put, List.setIfInBounds_toArray, List.set_cons_zero, List.set_cons_succ, i64_w, i32_w]; rfl
 refine dr_one 12 HT rfl (by kernel_rfl) (by decide) (fun K hK => ?_)
 refine if_wp (by rfl) ?_; refine wp_lit q107 [2, 3, 4, 5] ([t102001, t105001, t108001, t111001] : List S107) ([.int .i64 t102001.f0, .string t102001.f1, .slice B102002 t102001.f2.length d102002] ++ ([.int .i64 t105001.f0, .string t105001.f1, .slice B105002 t105001.f2.length d105002] ++ ([.int .i64 t108001.f0, .string t108001.f1, .slice B108002 t108001.f2.length d108002] ++ ([.int .i64 t111001.f0, .string t111001.f1, .slice B111002 t111001.f2.length d111002] ++ [])))) HS (by first | (go_simp; done) | (go_simp; rfl)) rfl rfl (Nat.le_of_ble_eq_true rfl) (MadeL.cons (js1 := [2]) (c := [.int .i64 t102001.f0, .string t102001.f1, .slice B102002 t102001.f2.length d102002]) rfl (fun S hd hh => q107_pack (x := t102001) hd (hh 2 (.own (Zd.slice 107 q107) t102001.f2 [.slice B102002 t102001.f2.length d102002]) rfl) (by decide)) (MadeL.cons (js1 := [3]) (c := [.int .i64 t105001.f0, .string t105001.f1, .slice B105002 t105001.f2.length d105002]) rfl (fun S hd hh => q107_pack (x := t105001) hd (hh 3 (.own (Zd.slice 107 q107) t105001.f2 [.slice B105002 t105001.f2.length d105002]) rfl) (by decide)) (MadeL.cons (js1 := [4]) (c := [.int .i64 t108001.f0, .string t108001.f1, .slice B108002 t108001.f2.length d108002]) rfl (fun S hd hh => q107_pack (x := t108001) hd (hh 4 (.own (Zd.slice 107 q107) t108001.f2 [.slice B108002 t108001.f2.length d108002]) rfl) (by decide)) (MadeL.cons (js1 := [5]) (c := [.int .i64 t111001.f0, .string t111001.f1, .slice B111002 t111001.f2.length d111002]) rfl (fun S hd hh => q107_pack (x := t111001) hd (hh 5 (.own (Zd.slice 107 q107) t111001.f2 [.slice B111002 t111001.f2.length d111002]) rfl) (by decide)) MadeL.nil (by decide)) (by decide)) (by decide)) (by decide)) ?_; clear HS; (try clear F); intro v112001 w112001 HS; obtain ⟨B112001, d112001, rfl, m112001⟩ := HS.formn 4 6 rfl rfl
 replace HS : Hp noFP w _ [.box g1 [.int .i64 a0.f0, .int .i64 a0.f1, .slice Ap0 a0.f2.length cp0, .slice Ap1 a0.f3.length cp1] 171, .box g2 [.int .i64 0, .string (⟨#[]⟩ : ByteArray), .slice none 0 0] 107, .emp, .emp, .emp, .emp, .own (Zd.slice 107 q107) ([t102001, t105001, t108001, t111001] : List S107) [.slice B112001 4 d112001]] := HS
 have F := HS.boxes; simp only [boxFacts, and_true] at F
 refine hK.out _ _ ⟨_, HS⟩ (fun HH => ?_)
 clear hK K
 refine norm_ (a' := ?_) ?_ ?_
 rotate_left
 · show Act.put _ (some 15) _ = _; simp only [Act.put, List.setIfInBounds_toArray, List.set_cons_zero, List.set_cons_succ, i64_w, i32_w]; rfl
 refine dr_one 13 HT rfl (by kernel_rfl) (by decide) (fun K hK => ?_)
 refine goes_ Try.func73 (by kernel_rfl) rfl #[.slice B112001 4 d112001] (by rfl) rfl rfl (by simp only [List.map_toArray, List.map_cons, List.map_nil]; rfl) ?_; refine (impl_ListItem.calls ht113001.out (HS.rd 6 rfl) m112001).mono ?_; rintro _ wt113001 ⟨v113002, rfl, HQ⟩; refine ⟨_, rfl, ?_⟩; replace HS := HS.call HQ; clear HQ; (try clear F); obtain ⟨B113002, d113002, rfl, m113002⟩ := HS.form 7 rfl
 replace HS : Hp noFP w _ [.box g1 [.int .i64 a0.f0, .int .i64 a0.f1, .slice Ap0 a0.f2.length cp0, .slice Ap1 a0.f3.length cp1] 171, .box g2 [.int .i64 0, .string (⟨#[]⟩ : ByteArray), .slice none 0 0] 107, .emp, .emp, .emp, .emp, .own (Zd.slice 107 q107) ([t102001, t105001, t108001, t111001] : List S107) [.slice B112001 4 d112001], .own (Zd.slice 107 q107) t113001.f2 [.slice B113002 t113001.f2.length d113002]] := HS
 have F := HS.boxes; simp only [boxFacts, and_true] at F
 refine hK.out _ _ ⟨_, HS⟩ (fun HH => ?_)
 clear hK K
 refine norm_ (a' := ?_) ?_ ?_
 rotate_left
 · show Act.put _ (some 16) _ = _; simp only [Act.put, List.setIfInBounds_toArray, List.set_cons_zero, List.set_cons_succ, i64_w, i32_w]; rfl
 refine dr_last 14 HT rfl (by kernel_rfl) (by decide) (fun K hK => ?_)
 refine if_wp (by rfl) ?_; refine wp_store 1 0 HS (seg := [.int .i64 t113001.f0, .string t113001.f1, .slice B113002 t113001.f2.length d113002]) rfl rfl rfl rfl rfl rfl (by kernel_rfl) (by simp [wrt]) (by simp [Value.oneCell']) ?_; clear HS; (try clear F); intro w114001 HS
 replace HS : Hp noFP w _ [.box g1 [.int .i64 a0.f0, .int .i64 a0.f1, .slice Ap0 a0.f2.length cp0, .slice Ap1 a0.f3.length cp1] 171, .box g2 [.int .i64 t113001.f0, .string t113001.f1, .slice B113002 t113001.f2.length d113002] 107, .emp, .emp, .emp, .emp, .own (Zd.slice 107 q107) ([t102001, t105001, t108001, t111001] : List S107) [.slice B112001 4 d112001], .own (Zd.slice 107 q107) t113001.f2 [.slice B113002 t113001.f2.length d113002]] := HS
 have F := HS.boxes; simp only [boxFacts, and_true] at F
 refine hK.out _ _ ?_
 clear hK K
 refine done_ (done_of HT.out (by kernel_rfl)) ?_
 obtain rfl := zsome H
 go_wp2
 exact bodyPost_ret (results_single rfl (.cell _ _ _ _ _ rfl (HS.boxAt (i := 1) rfl) Try.underlying107 rfl (by kernel_rfl) .nil)) rfl ⟨_, rfl, HS.pick [7] (by decide) (by rfl)⟩
/-! ### impl_Answer_129_0: function 129 -/
def impl_Answer_129_0.l0 : Nat → (List S107) → Int → (List S171) → Option (S107)
  | 0, _, _, _ => none
  | k + 1, l26, x28, a0 => (if x28 < (a0.length : Int) then (if 0 ≤ x28 then (if x28 < (a0.length : Int) then ((impl_replyItem_1.f k (rd_T171 a0 x28)).bind fun t204001 => (if l26.length + 1 ≤ 2932031007402 then (lets (l26 ++ ([t204001] : List S107)) fun y206002 => (impl_Answer_129_0.l0 k y206002 (wrap64 (x28 + 1)) a0)) else none)) else none) else none) else (some (⟨48, (⟨#[]⟩ : ByteArray), l26⟩ : S107)))
def impl_Answer_129_0.f (k : Nat) (a0 : (List S171)) : Option (S107) := (impl_Answer_129_0.l0 k [] 0 a0)
def impl_Answer_129_0.T5 : Bool × List (List Nat × List Nat) := (true, [([], []), ([0], [0]), ([], []), ([], []), ([2, 3], [2, 3]), ([4], [4]), ([1, 5, 4], [1, 5]), ([0, 1, 2, 3, 4, 5, 6], []), ([7, 6, 6, 0, 1, 2, 3, 4, 5, 6], [6, 7])])
theorem impl_Answer_129_0.tT5 : rtab .any (opsOf Try.f129 5) = impl_Answer_129_0.T5 := by kernel_rfl
set_option maxHeartbeats 16000000 in
theorem impl_Answer_129_0.calls {k : Nat} {a0 : (List S171)} {Ap0 : Option Addr} {np0 cp0 : Nat} {r : S107} {w : World} (h : impl_Answer_129_0.f k a0 = some r) (gp0 : k171.C w Ap0 np0 a0) (lp0 : np0 ≤ cp0) :
    Calls Try.prog 129 #[.slice Ap0 np0 cp0, .func (.func 126) #[] #[]] w (fun e w' => ∃ v0_ : Value, e = .returned (.agg #[.int .i64 r.f0, .string r.f1, v0_]) ∧ Hp noFP w w' [.own (Zd.slice 107 q107) r.f2 [v0_]]) := by
 obtain rfl := C_len gp0
 have HS := Hp.start w
 have H := Aside0.mk h
 clear h
 unfold impl_Answer_129_0.f at H
 go_enter Try.func129, Try.ntmps129
 go_wp2_with (first | ((with_reducible refine gate_dst (N := 4) rfl ?_); refine ev_box rfl HS (by first | (go_simp; done) | (go_simp; rfl)) rfl ?_; clear HS; (try clear F); intro g4 w4 HS; replace HS : Hp noFP w _ [.box g4 [.int .i64 0, .string (⟨#[]⟩ : ByteArray), .slice none 0 0] 107] := HS; have F := HS.boxes; simp only [boxFacts, and_true] at F) | ((with_reducible refine gate_dst (N := 5) rfl ?_); refine ev_box rfl HS (by first | (go_simp; done) | (go_simp; rfl)) rfl ?_; clear HS; (try clear F); intro g5 w5 HS; replace HS : Hp noFP w _ [.box g4 [.int .i64 0, .string (⟨#[]⟩ : ByteArray), .slice none 0 0] 107, .box g5 [.int .i64 0, .string (⟨#[]⟩ : ByteArray), .slice none 0 0] 107] := HS; have F := HS.boxes; simp only [boxFacts, and_true] at F) | ((with_reducible refine gate_store (p := 5) rfl ?_); refine ev_store rfl 1 0 HS (seg := [.int .i64 48, .string (⟨#[]⟩ : ByteArray), .slice none 0 0]) rfl rfl rfl rfl rfl rfl (by kernel_rfl) (by simp [wrt]) (by simp [Value.oneCell']) ?_; clear HS; (try clear F); intro w5 HS; replace HS : Hp noFP w _ [.box g4 [.int .i64 0, .string (⟨#[]⟩ : ByteArray), .slice none 0 0] 107, .box g5 [.int .i64 48, .string (⟨#[]⟩ : ByteArray), .slice none 0 0] 107] := HS; have F := HS.boxes; simp only [boxFacts, and_true] at F))
 replace HS := HS.nil 107 q107
 go_loopg [11] k (fun kq v_11 w' => ∃ (l26 : List S107) (v27 : Value) (x28 : Int), v_11 = .int .i64 x28 ∧ Aside0 (impl_Answer_129_0.l0 kq l26 x28 a0 = some r) ∧ Aside0 (kq ≤ k) ∧ Hp noFP w w' [.box g4 [.int .i64 0, .string (⟨#[]⟩ : ByteArray), .slice none 0 0] 107, .box g5 [.int .i64 48, .string (⟨#[]⟩ : ByteArray), v27] 107, .own (Zd.slice 107 q107) l26 [v27]])
 case atStart => exact ⟨_, _, _, rfl, H, ⟨Nat.le_refl _⟩, HS⟩
 case round =>
  clear HS H; (try clear F)
  obtain ⟨l26, v27, x28, rfl, H, HKk25, HS⟩ := hrel
  obtain ⟨B27, d27, rfl, m27⟩ := HS.form 2 rfl
  have F := HS.boxes; simp only [boxFacts, and_true] at F
  cases gk with
  | zero => exact absurd H.out (by simp [impl_Answer_129_0.l0])
  | succ k25 =>
   simp only [impl_Answer_129_0.l0] at H
   by_cases c30 : x28 < (a0.length : Int)
   · replace H := zpos c30 H
     replace c30 := eq_true c30
     by_cases c31 : 0 ≤ x28
     case neg => exact zno c31 H
     replace H := zpos c31 H
     replace c31 := eq_true c31
     by_cases c32 : x28 < (a0.length : Int)
     case neg => exact zno c32 H
     replace H := zpos c32 H
     replace c32 := eq_true c32
     obtain ⟨ad33, B33_2, d33_2, B33_3, d33_3, rfl, e33_0, e33_1, e33_2, e33_3, m33_2, y33_2, m33_3, y33_3⟩ := at_T171 gp0 x28 (of_eq_true c31) (of_eq_true c32)
     have e33_0_33 := HS.keepc e33_0
     have e33_1_33 := HS.keepc e33_1
     have e33_2_33 := HS.keepc e33_2
     have e33_3_33 := HS.keepc e33_3
     go_wp2_with (first | ((with_reducible refine gate_dst (N := 7) rfl ?_); refine ev_box rfl HS (by first | (go_simp; done) | (go_simp; rfl)) rfl ?_; clear HS; (try clear F); intro g7 w7 HS; replace HS : Hp noFP w _ [.box g4 [.int .i64 0, .string (⟨#[]⟩ : ByteArray), .slice none 0 0] 107, .box g5 [.int .i64 48, .string (⟨#[]⟩ : ByteArray), .slice B27 l26.length d27] 107, .own (Zd.slice 107 q107) l26 [.slice B27 l26.length d27], .box g7 [.int .i64 0, .int .i64 0, .slice none 0 0, .slice none 0 0] 171] := HS; have F := HS.boxes; simp only [boxFacts, and_true] at F) | ((with_reducible refine gate_store (p := 7) rfl ?_); refine ev_store rfl 3 0 HS (seg := [.int .i64 ((rd_T171 a0 x28).f0), .int .i64 ((rd_T171 a0 x28).f1), .slice B33_2 (rd_T171 a0 x28).f2.length d33_2, .slice B33_3 (rd_T171 a0 x28).f3.length d33_3]) rfl rfl rfl rfl rfl rfl (by kernel_rfl) (by simp [wrt]) (by simp [Value.oneCell']) ?_; clear HS; (try clear F); intro w36 HS; replace HS : Hp noFP w _ [.box g4 [.int .i64 0, .string (⟨#[]⟩ : ByteArray), .slice none 0 0] 107, .box g5 [.int .i64 48, .string (⟨#[]⟩ : ByteArray), .slice B27 l26.length d27] 107, .own (Zd.slice 107 q107) l26 [.slice B27 l26.length d27], .box g7 [.int .i64 ((rd_T171 a0 x28).f0), .int .i64 ((rd_T171 a0 x28).f1), .slice B33_2 (rd_T171 a0 x28).f2.length d33_2, .slice B33_3 (rd_T171 a0 x28).f3.length d33_3] 171] := HS; have F := HS.boxes; simp only [boxFacts, and_true] at F))
     obtain ⟨t204001, ht204001, H⟩ := zbind H
     by_cases c206001 : l26.length + 1 ≤ 2932031007402
     case neg => exact zno c206001 H
     replace H := zpos c206001 H
     replace c206001 := eq_true c206001
     obtain ⟨y206002, e_y206002, H⟩ := zlets H
     refine dr_start2 [.box g4 [.int .i64 0, .string (⟨#[]⟩ : ByteArray), .slice none 0 0] 107, .box g5 [.int .i64 48, .string (⟨#[]⟩ : ByteArray), .slice B27 l26.length d27] 107, .emp, .box g7 [.int .i64 ((rd_T171 a0 x28).f0), .int .i64 ((rd_T171 a0 x28).f1), .slice B33_2 (rd_T171 a0 x28).f2.length d33_2, .slice B33_3 (rd_T171 a0 x28).f3.length d33_3] 171] [8] HS (HS.arr [some 0, some 1, none, some 3] (by decide)) #[false, false, false, false, false, false, false, false, false] (by kernel_rfl) rfl rfl impl_Answer_129_0.tT5 (fun w39 HT HS HH => ?_)
     (try clear F)
     refine drq_of [(0, some 15), (1, some 16), (2, some 17), (3, some 18)] ?_
     repeat (first | (refine drq_pure HT (v := ?_) (a' := ?_) rfl rfl (by kernel_rfl) (fun _ _ _ h => h) (.inl ⟨by rfl, ?_⟩) ?_ ?_; rotate_left; (intro w'; go_simp; with_reducible rfl); rotate_left; (simp only [Act.put, List.setIfInBounds_toArray, List.set_cons_zero, List.set_cons_succ, i64_w, i32_w]; rfl)) | (refine drq_take HT HH (v := ?_) (a' := ?_) rfl rfl (by kernel_rfl) (fun _ _ _ h => h) (.inl ⟨by rfl, ?_⟩) ?_ ?_; rotate_left; (rintro w' ⟨rs', HS'⟩; have F := HS'.boxes; simp only [boxFacts, List.cons_append, List.nil_append, and_true] at F; go_simp; with_reducible rfl); rotate_left; (simp only [Act.put, List.setIfInBounds_toArray, List.set_cons_zero, List.set_cons_succ, i64_w, i32_w]; rfl)))
     refine drq_end ?_
     refine dr_one 4 HT rfl (by kernel_rfl) (by decide) (fun K hK => ?_)
     refine if_wp (by rfl) ?_; refine wp_callv Try.func126 (by kernel_rfl) rfl #[.agg #[.int .i64 ((rd_T171 a0 x28).f0), .int .i64 ((rd_T171 a0 x28).f1), .slice B33_2 (rd_T171 a0 x28).f2.length d33_2, .slice B33_3 (rd_T171 a0 x28).f3.length d33_3]] #[.agg #[.int .i64 ((rd_T171 a0 x28).f0), .int .i64 ((rd_T171 a0 x28).f1), .slice B33_2 (rd_T171 a0 x28).f2.length d33_2, .slice B33_3 (rd_T171 a0 x28).f3.length d33_3]] rfl rfl (by simp only [List.map_toArray, List.map_cons, List.map_nil]; rfl) (by first | rfl | simp) ?_; refine (impl_replyItem_1.calls ht204001.out (HS.ro y33_2) m33_2 (HS.ro y33_3) m33_3).mono ?_; rintro _ wt204001 ⟨v204002, rfl, HQ⟩; refine ⟨_, rfl, ?_⟩; replace HS := HS.call HQ; clear HQ; (try clear F); obtain ⟨B204002, d204002, rfl, m204002⟩ := HS.form 4 rfl
     replace HS : Hp noFP w _ [.box g4 [.int .i64 0, .string (⟨#[]⟩ : ByteArray), .slice none 0 0] 107, .box g5 [.int .i64 48, .string (⟨#[]⟩ : ByteArray), .slice B27 l26.length d27] 107, .own (Zd.slice 107 q107) l26 [.slice B27 l26.length d27], .box g7 [.int .i64 ((rd_T171 a0 x28).f0), .int .i64 ((rd_T171 a0 x28).f1), .slice B33_2 (rd_T171 a0 x28).f2.length d33_2, .slice B33_3 (rd_T171 a0 x28).f3.length d33_3] 171, .own (Zd.slice 107 q107) t204001.f2 [.slice B204002 t204001.f2.length d204002]] := HS
     have F := HS.boxes; simp only [boxFacts, and_true] at F
     refine hK.out _ _ ⟨[], HS.arr [some 0, some 1, none, some 3] (by decide)⟩ (fun HH => ?_)
     clear hK K
     refine norm_ (a' := ?_) ?_ ?_
     rotate_left
     · show Act.put _ (some 19) _ = _; simp only [Act.put, List.setIfInBounds_toArray, List.set_cons_zero, List.set_cons_succ, i64_w, i32_w]; rfl
     refine dr_one 5 HT rfl (by kernel_rfl) (by decide) (fun K hK => ?_)
     refine if_wp (by rfl) ?_; refine wp_lit q107 [4] ([t204001] : List S107) ([.int .i64 t204001.f0, .string t204001.f1, .slice B204002 t204001.f2.length d204002] ++ []) HS (by first | (go_simp; done) | (go_simp; rfl)) rfl rfl (Nat.le_of_ble_eq_true rfl) (MadeL.cons (js1 := [4]) (c := [.int .i64 t204001.f0, .string t204001.f1, .slice B204002 t204001.f2.length d204002]) rfl (fun S hd hh => q107_pack (x := t204001) hd (hh 4 (.own (Zd.slice 107 q107) t204001.f2 [.slice B204002 t204001.f2.length d204002]) rfl) (by decide)) MadeL.nil (by decide)) ?_; clear HS; (try clear F); intro v205001 w205001 HS; obtain ⟨B205001, d205001, rfl, m205001⟩ := HS.formn 1 5 rfl rfl
     replace HS : Hp noFP w _ [.box g4 [.int .i64 0, .string (⟨#[]⟩ : ByteArray), .slice none 0 0] 107, .box g5 [.int .i64 48, .string (⟨#[]⟩ : ByteArray), .slice B27 l26.length d27] 107, .own (Zd.slice 107 q107) l26 [.slice B27 l26.length d27], .box g7 [.int .i64 ((rd_T171 a0 x28).f0), .int .i64 ((rd_T171 a0 x28).f1), .slice B33_2 (rd_T171 a0 x28).f2.length d33_2, .slice B33_3 (rd_T171 a0 x28).f3.length d33_3] 171, .emp, .own (Zd.slice 107 q107) ([t204001] : List S107) [.slice B205001 1 d205001]] := HS
     have F := HS.boxes; simp only [boxFacts, and_true] at F
     refine hK.out _ _ ⟨[], HS.arr [some 0, some 1, none, some 3] (by decide)⟩ (fun HH => ?_)
     clear hK K
     refine norm_ (a' := ?_) ?_ ?_
     rotate_left
     · show Act.put _ (some 20) _ = _; simp only [Act.put, List.setIfInBounds_toArray, List.set_cons_zero, List.set_cons_succ, i64_w, i32_w]; rfl
     refine dr_one 6 HT rfl (by kernel_rfl) (by decide) (fun K hK => ?_)
     refine if_wp (by rfl) ?_; refine wp_append q107 2 5 HS rfl rfl (by decide) rfl rfl rfl Try.underlying105 info107 rfl (by decide) (by decide) (by have := of_eq_true c206001; first | omega | (simp only [List.length_cons, List.length_nil, List.length_append, Nat.zero_add] at this ⊢; omega)) ?_; clear HS; (try clear F); intro v206002 w206002 HS; rw [← e_y206002.out] at HS; obtain ⟨B206002, d206002, rfl, m206002⟩ := HS.form 6 rfl
     replace HS : Hp noFP w _ [.box g4 [.int .i64 0, .string (⟨#[]⟩ : ByteArray), .slice none 0 0] 107, .box g5 [.int .i64 48, .string (⟨#[]⟩ : ByteArray), .slice B27 l26.length d27] 107, .emp, .box g7 [.int .i64 ((rd_T171 a0 x28).f0), .int .i64 ((rd_T171 a0 x28).f1), .slice B33_2 (rd_T171 a0 x28).f2.length d33_2, .slice B33_3 (rd_T171 a0 x28).f3.length d33_3] 171, .emp, .emp, .own (Zd.slice 107 q107) y206002 [.slice B206002 y206002.length d206002]] := HS
     have F := HS.boxes; simp only [boxFacts, and_true] at F
     refine hK.out _ _ ⟨[], HS.arr [some 0, some 1, none, some 3] (by decide)⟩ (fun HH => ?_)
     clear hK K
     refine norm_ (a' := ?_) ?_ ?_
     rotate_left
     · show Act.put _ (some 21) _ = _; simp only [Act.put, List.setIfInBounds_toArray, List.set_cons_zero, List.set_cons_succ, i64_w, i32_w]; rfl
     refine drq_of [(7, some 22)] ?_
     repeat (first | (refine drq_pure HT (v := ?_) (a' := ?_) rfl rfl (by kernel_rfl) (fun _ _ _ h => h) (.inl ⟨by rfl, ?_⟩) ?_ ?_; rotate_left; (intro w'; go_simp; with_reducible rfl); rotate_left; (simp only [Act.put, List.setIfInBounds_toArray, List.set_cons_zero, List.set_cons_succ, i64_w, i32_w]; rfl)))
     refine drq_end ?_
     refine dr_last 8 HT rfl (by kernel_rfl) (by decide) (fun K hK => ?_)
     refine if_wp (by rfl) ?_; refine wp_store 1 2 HS (seg := [.slice B206002 y206002.length d206002]) rfl rfl rfl rfl rfl rfl (by kernel_rfl) (by simp [wrt]) (by simp [Value.oneCell']) ?_; clear HS; (try clear F); intro w208001 HS
     replace HS : Hp noFP w _ [.box g4 [.int .i64 0, .string (⟨#[]⟩ : ByteArray), .slice none 0 0] 107, .box g5 [.int .i64 48, .string (⟨#[]⟩ : ByteArray), .slice B206002 y206002.length d206002] 107, .emp, .box g7 [.int .i64 ((rd_T171 a0 x28).f0), .int .i64 ((rd_T171 a0 x28).f1), .slice B33_2 (rd_T171 a0 x28).f2.length d33_2, .slice B33_3 (rd_T171 a0 x28).f3.length d33_3] 171, .emp, .emp, .own (Zd.slice 107 q107) y206002 [.slice B206002 y206002.length d206002]] := HS
     have F := HS.boxes; simp only [boxFacts, and_true] at F
     refine hK.out _ _ ?_
     clear hK K
     refine done_ (done_of HT.out (by kernel_rfl)) ?_
     go_wp2
     go_roundg k25
     case measure => have := HKk25.out; omega
     case rel => exact ⟨_, _, _, rfl, H, ⟨by have := HKk25.out; omega⟩, HS.pick [0, 1, 6] (by decide) (by rfl)⟩
   · replace H := zneg c30 H
     replace c30 := eq_false c30
     obtain rfl := zsome H
     go_wp2_with (first | ((with_reducible refine gate_store (p := 4) rfl ?_); refine ev_store rfl 0 0 HS (seg := [.int .i64 48, .string (⟨#[]⟩ : ByteArray), .slice B27 l26.length d27]) rfl rfl rfl rfl rfl rfl (by kernel_rfl) (by simp [wrt]) (by simp [Value.oneCell']) ?_; clear HS; (try clear F); intro w41 HS; replace HS : Hp noFP w _ [.box g4 [.int .i64 48, .string (⟨#[]⟩ : ByteArray), .slice B27 l26.length d27] 107, .box g5 [.int .i64 48, .string (⟨#[]⟩ : ByteArray), .slice B27 l26.length d27] 107, .own (Zd.slice 107 q107) l26 [.slice B27 l26.length d27]] := HS; have F := HS.boxes; simp only [boxFacts, and_true] at F))
     exact bodyPost_ret (results_single rfl (.cell _ _ _ _ _ rfl (HS.boxAt (i := 0) rfl) Try.underlying107 rfl (by kernel_rfl) .nil)) rfl ⟨_, rfl, HS.pick [2] (by decide) (by rfl)⟩
/-! ### impl_replyItem: function 68 -/
def impl_replyItem.f (k : Nat) (a0 : S49) : Option (S107) := ((impl_bytesItem.f a0.f0).bind fun t102001 => ((impl_IntItem.f k a0.f1).bind fun t105001 => ((impl_IntItem.f k a0.f2).bind fun t108001 => ((impl_IntItem.f k a0.f3).bind fun t111001 => ((impl_IntItem.f k a0.f4).bind fun t114001 => ((impl_IntItem.f k a0.f5).bind fun t117001 => ((impl_Answer_129_0.f k a0.f6).bind fun t121001 => ((impl_ListItem.f k ([t102001, t105001, t108001, t111001, t114001, t117001, t121001] : List S107)).bind fun t123001 => (some (⟨t123001.f0, t123001.f1, t123001.f2⟩ : S107))))))))))
def impl_replyItem.T2 : Bool × List (List Nat × List Nat) := (true, [([], []), ([0], [0]), ([1], [1]), ([], []), ([3], [3]), ([4, 2], [4]), ([], []), ([6], [6]), ([7, 5], [7]), ([], []), ([9], [9]), ([10, 8], [10]), ([], []), ([12], [12]), ([13, 11], [13]), ([], []), ([15], [15]), ([16, 14], [16]), ([], []), ([18], [18]), ([], []), ([19, 20, 17], [19, 20]), ([2, 5, 8, 11, 14, 17, 21], [2, 5, 8, 11, 14, 17, 21]), ([22, 21], [22]), ([23, 23, 0, 1, 2, 3, 4, 5, 6, 7, 8, 9, 10, 11, 12, 13, 14, 15, 16, 17, 18, 19, 20, 21, 22, 23], [23])])
theorem impl_replyItem.tT2 : rtab .any (opsOf Try.f68 2) = impl_replyItem.T2 := by kernel_rfl
set_option maxHeartbeats 16000000 in
theorem impl_replyItem.calls {k : Nat} {a0 : S49} {Ap0 : Option Addr} {np0 cp0 : Nat} {r : S107} {w : World} (h : impl_replyItem.f k a0 = some r) (gp0 : k171.C w Ap0 np0 a0.f6) (lp0 : np0 ≤ cp0) :
    Calls Try.prog 68 #[.agg #[.string a0.f0, .int .i64 a0.f1, .int .i64 a0.f2, .int .i64 a0.f3, .int .i64 a0.f4, .int .i64 a0.f5, .slice Ap0 np0 cp0, .string a0.f7]] w (fun e w' => ∃ v0_ : Value, e = .returned (.agg #[.int .i64 r.f0, .string r.f1, v0_]) ∧ Hp noFP w w' [.own (Zd.slice 107 q107) r.f2 [v0_]]) := by
 obtain rfl := C_len gp0
 have HS := Hp.start w
 have H := Aside0.mk h
 clear h
 unfold impl_replyItem.f at H
 go_enter Try.func68, Try.ntmps68
 go_wp2_with (first | ((with_reducible refine gate_dst (N := 1) rfl ?_); refine ev_box rfl HS (by first | (go_simp; done) | (go_simp; rfl)) rfl ?_; clear HS; (try clear F); intro g1 w1 HS; replace HS : Hp noFP w _ [.box g1 [.string a0.f0, .int .i64 a0.f1, .int .i64 a0.f2, .int .i64 a0.f3, .int .i64 a0.f4, .int .i64 a0.f5, .slice Ap0 a0.f6.length cp0, .string a0.f7] 49] := HS; have F := HS.boxes; simp only [boxFacts, and_true] at F) | ((with_reducible refine gate_dst (N := 2) rfl ?_); refine ev_box rfl HS (by first | (go_simp; done) | (go_simp; rfl)) rfl ?_; clear HS; (try clear F); intro g2 w2 HS; replace HS : Hp noFP w _ [.box g1 [.string a0.f0, .int .i64 a0.f1, .int .i64 a0.f2, .int .i64 a0.f3, .int .i64 a0.f4, .int .i64 a0.f5, .slice Ap0 a0.f6.length cp0, .string a0.f7] 49, .box g2 [.int .i64 0, .string (⟨#[]⟩ : ByteArray), .slice none 0 0] 107] := HS; have F := HS.boxes; simp only [boxFacts, and_true] at F))
 obtain ⟨t102001, ht102001, H⟩ := zbind H
 obtain ⟨t105001, ht105001, H⟩ := zbind H
 obtain ⟨t108001, ht108001, H⟩ := zbind H
 obtain ⟨t111001, ht111001, H⟩ := zbind H
 obtain ⟨t114001, ht114001, H⟩ := zbind H
 obtain ⟨t117001, ht117001, H⟩ := zbind H
 obtain ⟨t121001, ht121001, H⟩ := zbind H
 obtain ⟨t123001, ht123001, H⟩ := zbind H
 refine dr_start [24] HS #[false, false, false, false, false, false, false, false, false, false, false, false, false, false, false, false, false, false, false, false, false, false, false, false, false] (by kernel_rfl) rfl rfl impl_replyItem.tT2 (fun w6 HT HS HH => ?_)
 (try clear F)
 refine drq_of [(0, some 4), (1, some 5), (3, some 7), (4, some 8), (6, some 10), (7, some 11), (9, some 13), (10, some 14), (12, some 16), (13, some 17), (15, some 19), (16, some 20), (18, some 22), (19, some 23), (20, some 24)] ?_
 repeat (first | (refine drq_pure HT (v := ?_) (a' := ?_) rfl rfl (by kernel_rfl) (fun _ _ _ h => h) (.inl ⟨by rfl, ?_⟩) ?_ ?_; rotate_left; (intro w'; go_simp; with_reducible rfl); rotate_left; (simp only [Act.put, List.setIfInBounds_toArray, List.set_cons_zero, List.set_cons_succ, i64_w, i32_w]; rfl)) | (refine drq_take HT HH (v := ?_) (a' := ?_) rfl rfl (by kernel_rfl) (fun _ _ _ h => h) (.inl ⟨by rfl, ?_⟩) ?_ ?_; rotate_left; (rintro w' ⟨rs', HS'⟩; have F := HS'.boxes; simp only [boxFacts, List.cons_append, List.nil_append, and_true] at F; go_simp; with_reducible rfl); rotate_left; (simp only [Act.put, List.setIfInBounds_toArray, List.set_cons_zero, List.set_cons_succ, i64_w, i32_w]; rfl)))
 refine drq_end ?_
 refine dr_one 2 HT rfl (by kernel_rfl) (by decide) (fun K hK => ?_)
 refine goes_ Try.func74 (by kernel_rfl) rfl #[.string a0.f0] (by rfl) rfl rfl (by simp only [List.map_toArray, List.map_cons, List.map_nil]; rfl) ?_; refine (impl_bytesItem.calls ht102001.out).mono ?_; rintro _ wt102001 ⟨v102002, rfl, HQ⟩; refine ⟨_, rfl, ?_⟩; replace HS := HS.call HQ; clear HQ; (try clear F); obtain ⟨B102002, d102002, rfl, m102002⟩ := HS.form 2 rfl
 replace HS : Hp noFP w _ [.box g1 [.string a0.f0, .int .i64 a0.f1, .int .i64 a0.f2, .int .i64 a0.f3, .int .i64 a0.f4, .int .i64 a0.f5, .slice Ap0 a0.f6.length cp0, .string a0.f7] 49, .box g2 [.int .i64 0, .string (⟨#[]⟩ : ByteArray), .slice none 0 0] 107, .own (Zd.slice 107 q107) t102001.f2 [.slice B102002 t102001.f2.length d102002]] := HS
 have F := HS.boxes; simp only [boxFacts, and_true] at F
 refine hK.out _ _ ⟨_, HS⟩ (fun HH => ?_)
 clear hK K
 refine norm_ (a' := ?_) ?_ ?_
 rotate_left
 · show Act.put _ (some 6) _ = _; simp only [Act.put, List.setIfInBounds_toArray, List.set_cons_zero, List.set_cons_succ, i64_w, i32_w]; rfl
 refine dr_one 5 HT rfl (by kernel_rfl) (by decide) (fun K hK => ?_)
 refine goes_ Try.func127 (by kernel_rfl) rfl #[.int .i64 a0.f1] (by rfl) rfl rfl (by simp only [List.map_toArray, List.map_cons, List.map_nil]; rfl) ?_; refine (impl_IntItem.calls ht105001.out).mono ?_; rintro _ wt105001 ⟨v105002, rfl, HQ⟩; refine ⟨_, rfl, ?_⟩; replace HS := HS.call HQ; clear HQ; (try clear F); obtain ⟨B105002, d105002, rfl, m105002⟩ := HS.form 3 rfl
 replace HS : Hp noFP w _ [.box g1 [.string a0.f0, .int .i64 a0.f1, .int .i64 a0.f2, .int .i64 a0.f3, .int .i64 a0.f4, .int .i64 a0.f5, .slice Ap0 a0.f6.length cp0, .string a0.f7] 49, .box g2 [.int .i64 0, .string (⟨#[]⟩ : ByteArray), .slice none 0 0] 107, .own (Zd.slice 107 q107) t102001.f2 [.slice B102002 t102001.f2.length d102002], .own (Zd.slice 107 q107) t105001.f2 [.slice B105002 t105001.f2.length d105002]] := HS
 have F := HS.boxes; simp only [boxFacts, and_true] at F
 refine hK.out _ _ ⟨_, HS⟩ (fun HH => ?_)
 clear hK K
 refine norm_ (a' := ?_) ?_ ?_
 rotate_left
 · show Act.put _ (some 9) _ = _; simp only [Act.put, List.setIfInBounds_toArray, List.set_cons_zero, List.set_cons_succ, i64_w, i32_w]; rfl
 refine dr_one 8 HT rfl (by kernel_rfl) (by decide) (fun K hK => ?_)
 refine goes_ Try.func127 (by kernel_rfl) rfl #[.int .i64 a0.f2] (by rfl) rfl rfl (by simp only [List.map_toArray, List.map_cons, List.map_nil]; rfl) ?_; refine (impl_IntItem.calls ht108001.out).mono ?_; rintro _ wt108001 ⟨v108002, rfl, HQ⟩; refine ⟨_, rfl, ?_⟩; replace HS := HS.call HQ; clear HQ; (try clear F); obtain ⟨B108002, d108002, rfl, m108002⟩ := HS.form 4 rfl
 replace HS : Hp noFP w _ [.box g1 [.string a0.f0, .int .i64 a0.f1, .int .i64 a0.f2, .int .i64 a0.f3, .int .i64 a0.f4, .int .i64 a0.f5, .slice Ap0 a0.f6.length cp0, .string a0.f7] 49, .box g2 [.int .i64 0, .string (⟨#[]⟩ : ByteArray), .slice none 0 0] 107, .own (Zd.slice 107 q107) t102001.f2 [.slice B102002 t102001.f2.length d102002], .own (Zd.slice 107 q107) t105001.f2 [.slice B105002 t105001.f2.length d105002], .own (Zd.slice 107 q107) t108001.f2 [.slice B108002 t108001.f2.length d108002]] := HS
 have F := HS.boxes; simp only [boxFacts, and_true] at F
 refine hK.out _ _ ⟨_, HS⟩ (fun HH => ?_)
 clear hK K
 refine norm_ (a' := ?_) ?_ ?_
 rotate_left
 · show Act.put _ (some 12) _ = _; simp only [Act.put, List.setIfInBounds_toArray, List.set_cons_zero, List.set_cons_succ, i64_w, i32_w]; rfl
 refine dr_one 11 HT rfl (by kernel_rfl) (by decide) (fun K hK => ?_)
 refine goes_ Try.func127 (by kernel_rfl) rfl #[.int .i64 a0.f3] (by rfl) rfl rfl (by simp only [List.map_toArray, List.map_cons, List.map_nil]; rfl) ?_; refine (impl_IntItem.calls ht111001.out).mono ?_; rintro _ wt111001 ⟨v111002, rfl, HQ⟩; refine ⟨_, rfl, ?_⟩; replace HS := HS.call HQ; clear HQ; (try clear F); obtain ⟨B111002, d111002, rfl, m111002⟩ := HS.form 5 rfl
 replace HS : Hp noFP w _ [.box g1 [.string a0.f0, .int .i64 a0.f1, .int .i64 a0.f2, .int .i64 a0.f3, .int .i64 a0.f4, .int .i64 a0.f5, .slice Ap0 a0.f6.length cp0, .string a0.f7] 49, .box g2 [.int .i64 0, .string (⟨#[]⟩ : ByteArray), .slice none 0 0] 107, .own (Zd.slice 107 q107) t102001.f2 [.slice B102002 t102001.f2.length d102002], .own (Zd.slice 107 q107) t105001.f2 [.slice B105002 t105001.f2.length d105002], .own (Zd.slice 107 q107) t108001.f2 [.slice B108002 t108001.f2.length d108002], .own (Zd.slice 107 q107) t111001.f2 [.slice B111002 t111001.f2.length d111002]] := HS
 have F := HS.boxes; simp only [boxFacts, and_true] at F
 refine hK.out _ _ ⟨_, HS⟩ (fun HH => ?_)
 clear hK K
 refine norm_ (a' := ?_) ?_ ?_
 rotate_left
 · show Act.put _ (some 15) _ = _; simp only [Act.put, List.setIfInBounds_toArray, List.set_cons_zero, List.set_cons_succ, i64_w, i32_w]; rfl
 refine dr_one 14 HT rfl (by kernel_rfl) (by decide) (fun K hK => ?_)
 refine goes_ Try.func127 (by kernel_rfl) rfl #[.int .i64 a0.f4] (by rfl) rfl rfl (by simp only [List.map_toArray, List.map_cons, List.map_nil]; rfl) ?_; refine (impl_IntItem.calls ht114001.out).mono ?_; rintro _ wt114001 ⟨v114002, rfl, HQ⟩; refine ⟨_, rfl, ?_⟩; replace HS := HS.call HQ; clear HQ; (try clear F); obtain ⟨B114002, d114002, rfl, m114002⟩ := HS.form 6 rfl
 replace HS : Hp noFP w _ [.box g1 [.string a0.f0, .int .i64 a0.f1, .int .i64 a0.f2, .int .i64 a0.f3, .int .i64 a0.f4, .int .i64 a0.f5, .slice Ap0 a0.f6.length cp0, .string a0.f7] 49, .box g2 [.int .i64 0, .string (⟨#[]⟩ : ByteArray), .slice none 0 0] 107, .own (Zd.slice 107 q107) t102001.f2 [.slice B102002 t102001.f2.length d102002], .own (Zd.slice 107 q107) t105001.f2 [.slice B105002 t105001.f2.length d105002], .own (Zd.slice 107 q107) t108001.f2 [.slice B108002 t108001.f2.length d108002], .own (Zd.slice 107 q107) t111001.f2 [.slice B111002 t111001.f2.length d111002], .own (Zd.slice 107 q107) t114001.f2 [.slice B114002 t114001.f2.length d114002]] := HS
 have F := HS.boxes; simp only [boxFacts, and_true] at F
 refine hK.out _ _ ⟨_, HS⟩ (fun HH => ?_)
 clear hK K
 refine norm_ (a' := ?_) ?_ ?_
 rotate_left
 · show Act.put _ (some 18) _ = _; simp only [Act.put, List.setIfInBounds_toArray, List.set_cons_zero, List.set_cons_succ, i64_w, i32_w]; rfl
 refine dr_one 17 HT rfl (by kernel_rfl) (by decide) (fun K hK => ?_)
 refine goes_ Try.func127 (by kernel_rfl) rfl #[.int .i64 a0.f5] (by rfl) rfl rfl (by simp only [List.map_toArray, List.map_cons, List.map_nil]; rfl) ?_; refine (impl_IntItem.calls ht117001.out).mono ?_; rintro _ wt117001 ⟨v117002, rfl, HQ⟩; refine ⟨_, rfl, ?_⟩; replace HS := HS.call HQ; clear HQ; (try clear F); obtain ⟨B117002, d117002, rfl, m117002⟩ := HS.form 7 rfl
 replace HS : Hp noFP w _ [.box g1 [.string a0.f0, .int .i64 a0.f1, .int .i64 a0.f2, .int .i64 a0.f3, .int .i64 a0.f4, .int .i64 a0.f5, .slice Ap0 a0.f6.length cp0, .string a0.f7] 49, .box g2 [.int .i64 0, .string (⟨#[]⟩ : ByteArray), .slice none 0 0] 107, .own (Zd.slice 107 q107) t102001.f2 [.slice B102002 t102001.f2.length d102002], .own (Zd.slice 107 q107) t105001.f2 [.slice B105002 t105001.f2.length d105002], .own (Zd.slice 107 q107) t108001.f2 [.slice B108002 t108001.f2.length d108002], .own (Zd.slice 107 q107) t111001.f2 [.slice B111002 t111001.f2.length d111002], .own (Zd.slice 107 q107) t114001.f2 [.slice B114002 t114001.f2.length d114002], .own (Zd.slice 107 q107) t117001.f2 [.slice B117002 t117001.f2.length d117002]] := HS
 have F := HS.boxes; simp only [boxFacts, and_true] at F
 refine hK.out _ _ ⟨_, HS⟩ (fun HH => ?_)
 clear hK K
 refine norm_ (a' := ?_) ?_ ?_
 rotate_left
 · show Act.put _ (some 21) _ = _; simp only [Act.put, List.setIfInBounds_toArray, List.set_cons_zero, List.set_cons_succ, i64_w, i32_w]; rfl
 refine dr_one 21 HT rfl (by kernel_rfl) (by decide) (fun K hK => ?_)
 refine goes_ Try.func129 (by kernel_rfl) rfl #[.slice Ap0 a0.f6.length cp0, .func (.func 126) #[] #[]] (by rfl) rfl rfl (by simp only [List.map_toArray, List.map_cons, List.map_nil]; rfl) ?_; refine (impl_Answer_129_0.calls ht121001.out (HS.ro gp0) lp0).mono ?_; rintro _ wt121001 ⟨v121002, rfl, HQ⟩; refine ⟨_, rfl, ?_⟩; replace HS := HS.call HQ; clear HQ; (try clear F); obtain ⟨B121002, d121002, rfl, m121002⟩ := HS.form 8 rfl
 replace HS : Hp noFP w _ [.box g1 [.string a0.f0, .int .i64 a0.f1, .int .i64 a0.f2, .int .i64 a0.f3, .int .i64 a0.f4, .int .i64 a0.f5, .slice Ap0 a0.f6.length cp0, .string a0.f7] 49, .box g2 [.int .i64 0, .string (⟨#[]⟩ : ByteArray), .slice none 0 0] 107, .own (Zd.slice 107 q107) t102001.f2 [.slice B102002 t102001.f2.length d102002], .own (Zd.slice 107 q107) t105001.f2 [.slice B105002 t105001.f2.length d105002], .own (Zd.slice 107 q107) t108001.f2 [.slice B108002 t108001.f2.length d108002], .own (Zd.slice 107 q107) t111001.f2 [.slice B111002 t111001.f2.length d111002], .own (Zd.slice 107 q107) t114001.f2 [.slice B114002 t114001.f2.length d114002], .own (Zd.slice 107 q107) t117001.f2 [.slice B117002 t117001.f2.length d117002], .own (Zd.slice 107 q107) t121001.f2 [.slice B121002 t121001.f2.length d121002]] := HS
 have F := HS.boxes; simp only [boxFacts, and_true] at F
 refine hK.out _ _ ⟨_, HS⟩ (fun HH => ?_)
 clear hK K
 refine norm_ (a' := ?_) ?_ ?_
 rotate_left
 · show Act.put _ (some 25) _ = _; simp only [Act.put, List.setIfInBounds_toArray, List.set_cons_zero, List.set_cons_succ, i64_w, i32_w]; rfl
 refine dr_one 22 HT rfl (by kernel_rfl) (by decide) (fun K hK => ?_)
 refine if_wp (by rfl) ?_; refine wp_lit q107 [2, 3, 4, 5, 6, 7, 8] ([t102001, t105001, t108001, t111001, t114001, t117001, t121001] : List S107) ([.int .i64 t102001.f0, .string t102001.f1, .slice B102002 t102001.f2.length d102002] ++ ([.int .i64 t105001.f0, .string t105001.f1, .slice B105002 t105001.f2.length d105002] ++ ([.int .i64 t108001.f0, .string t108001.f1, .slice B108002 t108001.f2.length d108002] ++ ([.int .i64 t111001.f0, .string t111001.f1, .slice B111002 t111001.f2.length d111002] ++ ([.int .i64 t114001.f0, .string t114001.f1, .slice B114002 t114001.f2.length d114002] ++ ([.int .i64 t117001.f0, .string t117001.f1, .slice B117002 t117001.f2.length d117002] ++ ([.int .i64 t121001.f0, .string t121001.f1, .slice B121002 t121001.f2.length d121002] ++ []))))))) HS (by first | (go_simp; done) | (go_simp; rfl)) rfl rfl (Nat.le_of_ble_eq_true rfl) (MadeL.cons (js1 := [2]) (c := [.int .i64 t102001.f0, .string t102001.f1, .slice B102002 t102001.f2.length d102002]) rfl (fun S hd hh => q107_pack (x := t102001) hd (hh 2 (.own (Zd.slice 107 q107) t102001.f2 [.slice B102002 t102001.f2.length d102002]) rfl) (by decide)) (MadeL.cons (js1 := [3]) (c := [.int .i64 t105001.f0, .string t105001.f1, .slice B105002 t105001.f2.length d105002]) rfl (fun S hd hh => q107_pack (x := t105001) hd (hh 3 (.own (Zd.slice 107 q107) t105001.f2 [.slice B105002 t105001.f2.length d105002]) rfl) (by decide)) (MadeL.cons (js1 := [4]) (c := [.int .i64 t108001.f0, .string t108001.f1, .slice B108002 t108001.f2.length d108002]) rfl (fun S hd hh => q107_pack (x := t108001) hd (hh 4 (.own (Zd.slice 107 q107) t108001.f2 [.slice B108002 t108001.f2.length d108002]) rfl) (by decide)) (MadeL.cons (js1 := [5]) (c := [.int .i64 t111001.f0, .string t111001.f1, .slice B111002 t111001.f2.length d111002]) rfl (fun S hd hh => q107_pack (x := t111001) hd (hh 5 (.own (Zd.slice 107 q107) t111001.f2 [.slice B111002 t111001.f2.length d111002]) rfl) (by decide)) (MadeL.cons (js1 := [6]) (c := [.int .i64 t114001.f0, .string t114001.f1, .slice B114002 t114001.f2.length d114002]) rfl (fun S hd hh => q107_pack (x := t114001) hd (hh 6 (.own (Zd.slice 107 q107) t114001.f2 [.slice B114002 t114001.f2.length d114002]) rfl) (by decide)) (MadeL.cons (js1 := [7]) (c := [.int .i64 t117001.f0, .string t117001.f1, .slice B117002 t117001.f2.length d117002]) rfl (fun S hd hh => q107_pack (x := t117001) hd (hh 7 (.own (Zd.slice 107 q107) t117001.f2 [.slice B117002 t117001.f2.length d117002]) rfl) (by decide)) (MadeL.cons (js1 := [8]) (c := [.int .i64 t121001.f0, .string t121001.f1, .slice B121002 t121001.f2.length d121002]) rfl (fun S hd hh => q107_pack (x := t121001) hd (hh 8 (.own (Zd.slice 107 q107) t121001.f2 [.slice B121002 t121001.f2.length d121002]) rfl) (by decide)) MadeL.nil (by decide)) (by decide)) (by decide)) (by decide)) (by decide)) (by decide)) (by decide)) ?_; clear HS; (try clear F); intro v122001 w122001 HS; obtain ⟨B122001, d122001, rfl, m122001⟩ := HS.formn 7 9 rfl rfl
 replace HS : Hp noFP w _ [.box g1 [.string a0.f0, .int .i64 a0.f1, .int .i64 a0.f2, .int .i64 a0.f3, .int .i64 a0.f4, .int .i64 a0.f5, .slice Ap0 a0.f6.length cp0, .string a0.f7] 49, .box g2 [.int .i64 0, .string (⟨#[]⟩ : ByteArray), .slice none 0 0] 107, .emp, .emp, .emp, .emp, .emp, .emp, .emp, .own (Zd.slice 107 q107) ([t102001, t105001, t108001, t111001, t114001, t117001, t121001] : List S107) [.slice B122001 7 d122001]] := HS
 have F := HS.boxes; simp only [boxFacts, and_true] at F
 refine hK.out _ _ ⟨_, HS⟩ (fun HH => ?_)
 clear hK K
 refine norm_ (a' := ?_) ?_ ?_
 rotate_left
 · show Act.put _ (some 26) _ = _; simp only [Act.put, List.setIfInBounds_toArray, List.set_cons_zero, List.set_cons_succ, i64_w, i32_w]; rfl
 refine dr_one 23 HT rfl (by kernel_rfl) (by decide) (fun K hK => ?_)
 refine goes_ Try.func73 (by kernel_rfl) rfl #[.slice B122001 7 d122001] (by rfl) rfl rfl (by simp only [List.map_toArray, List.map_cons, List.map_nil]; rfl) ?_; refine (impl_ListItem.calls ht123001.out (HS.rd 9 rfl) m122001).mono ?_; rintro _ wt123001 ⟨v123002, rfl, HQ⟩; refine ⟨_, rfl, ?_⟩; replace HS := HS.call HQ; clear HQ; (try clear F); obtain ⟨B123002, d123002, rfl, m123002⟩ := HS.form 10 rfl
 replace HS : Hp noFP w _ [.box g1 [.string a0.f0, .int .i64 a0.f1, .int .i64 a0.f2, .int .i64 a0.f3, .int .i64 a0.f4, .int .i64 a0.f5, .slice Ap0 a0.f6.length cp0, .string a0.f7] 49, .box g2 [.int .i64 0, .string (⟨#[]⟩ : ByteArray), .slice none 0 0] 107, .emp, .emp, .emp, .emp, .emp, .emp, .emp, .own (Zd.slice 107 q107) ([t102001, t105001, t108001, t111001, t114001, t117001, t121001] : List S107) [.slice B122001 7 d122001], .own (Zd.slice 107 q107) t123001.f2 [.slice B123002 t123001.f2.length d123002]] := HS
 have F := HS.boxes; simp only [boxFacts, and_true] at F
 refine hK.out _ _ ⟨_, HS⟩ (fun HH => ?_)
 clear hK K
 refine norm_ (a' := ?_) ?_ ?_
 rotate_left
 · show Act.put _ (some 27) _ = _; simp only [Act.put, List.setIfInBounds_toArray, List.set_cons_zero, List.set_cons_succ, i64_w, i32_w]; rfl
 refine dr_last 24 HT rfl (by kernel_rfl) (by decide) (fun K hK => ?_)
 refine if_wp (by rfl) ?_; refine wp_store 1 0 HS (seg := [.int .i64 t123001.f0, .string t123001.f1, .slice B123002 t123001.f2.length d123002]) rfl rfl rfl rfl rfl rfl (by kernel_rfl) (by simp [wrt]) (by simp [Value.oneCell']) ?_; clear HS; (try clear F); intro w124001 HS
 replace HS : Hp noFP w _ [.box g1 [.string a0.f0, .int .i64 a0.f1, .int .i64 a0.f2, .int .i64 a0.f3, .int .i64 a0.f4, .int .i64 a0.f5, .slice Ap0 a0.f6.length cp0, .string a0.f7] 49, .box g2 [.int .i64 t123001.f0, .string t123001.f1, .slice B123002 t123001.f2.length d123002] 107, .emp, .emp, .emp, .emp, .emp, .emp, .emp, .own (Zd.slice 107 q107) ([t102001, t105001, t108001, t111001, t114001, t117001, t121001] : List S107) [.slice B122001 7 d122001], .own (Zd.slice 107 q107) t123001.f2 [.slice B123002 t123001.f2.length d123002]] := HS
 have F := HS.boxes; simp only [boxFacts, and_true] at F
 refine hK.out _ _ ?_
 clear hK K
 refine done_ (done_of HT.out (by kernel_rfl)) ?_
 obtain rfl := zsome H
 go_wp2
 exact bodyPost_ret (results_single rfl (.cell _ _ _ _ _ rfl (HS.boxAt (i := 1) rfl) Try.underlying107 rfl (by kernel_rfl) .nil)) rfl ⟨_, rfl, HS.pick [10] (by decide) (by rfl)⟩
/-! ### impl_textsOk_1: function 180 -/
def impl_textsOk_1.f (a0 : ByteArray) : Option (Bool) := (some (decide (400 < (a0.size : Int))))
set_option maxHeartbeats 16000000 in
theorem impl_textsOk_1.calls {a0 : ByteArray} {r : Bool} {w : World} (h : impl_textsOk_1.f a0 = some r) :
    Calls Try.prog 180 #[.string a0] w (fun e w' => e = .returned (.bool r) ∧ Hp noFP w w' []) := by
 have HS := Hp.start w
 have H := Aside0.mk h
 clear h
 unfold impl_textsOk_1.f at H
 go_enter Try.func180, Try.ntmps180
 obtain rfl := zsome H
 go_wp2
 go_ret
 exact ⟨rfl, HS.pick [] (by decide) (by rfl)⟩
/-! ### slices_IndexFunc_string_string_0: function 184 -/
def slices_IndexFunc_string_string_0.l0 : Nat → Int → (List ByteArray) → Option (Int)
  | 0, _, _ => none
  | k + 1, x4, a0 => (if x4 < (a0.length : Int) then (if 0 ≤ x4 then (if x4 < (a0.length : Int) then ((impl_textsOk_1.f (rdOf ByteArray.empty a0 x4)).bind fun t10 => (if t10 = true then (some x4) else (slices_IndexFunc_string_string_0.l0 k (wrap64 (x4 + 1)) a0))) else none) else none) else (some (-1)))
def slices_IndexFunc_string_string_0.f (k : Nat) (a0 : (List ByteArray)) : Option (Int) := (slices_IndexFunc_string_string_0.l0 k 0 a0)
set_option maxHeartbeats 16000000 in
theorem slices_IndexFunc_string_string_0.calls {k : Nat} {a0 : (List ByteArray)} {Ap0 : Option Addr} {np0 cp0 : Nat} {r : Int} {w : World} (h : slices_IndexFunc_string_string_0.f k a0 = some r) (gp0 : Kd.string.C w Ap0 np0 a0) (lp0 : np0 ≤ cp0) :
    Calls Try.prog 184 #[.slice Ap0 np0 cp0, .func (.func 180) #[] #[]] w (fun e w' => e = .returned (.int .i64 r) ∧ Hp noFP w w' []) := by
 obtain rfl := C_len gp0
 have HS := Hp.start w
 have H := Aside0.mk h
 clear h
 unfold slices_IndexFunc_string_string_0.f at H
 go_enter Try.func184, Try.ntmps184
 go_wp2
 go_loopg [8] k (fun kq v_8 w' => ∃ (x4 : Int), v_8 = .int .i64 x4 ∧ Aside0 (slices_IndexFunc_string_string_0.l0 kq x4 a0 = some r) ∧ Aside0 (kq ≤ k) ∧ Hp noFP w w' [])
 case atStart => exact ⟨_, rfl, H, ⟨Nat.le_refl _⟩, HS⟩
 case round =>
  clear HS H; (try clear F)
  obtain ⟨x4, rfl, H, HKk3, HS⟩ := hrel
  cases gk with
  | zero => exact absurd H.out (by simp [slices_IndexFunc_string_string_0.l0])
  | succ k3 =>
   simp only [slices_IndexFunc_string_string_0.l0] at H
   by_cases c6 : x4 < (a0.length : Int)
   · replace H := zpos c6 H
     replace c6 := eq_true c6
     by_cases c7 : 0 ≤ x4
     case neg => exact zno c7 H
     replace H := zpos c7 H
     replace c7 := eq_true c7
     by_cases c8 : x4 < (a0.length : Int)
     case neg => exact zno c8 H
     replace H := zpos c8 H
     replace c8 := eq_true c8
     obtain ⟨ad9, rfl, e9_0⟩ := Kd.at_string gp0 x4 (of_eq_true c7) (of_eq_true c8)
     have e9_0_9 := HS.keepc e9_0
     obtain ⟨t10, ht10, H⟩ := zbind H
     go_upto_if 16 with (first | ((with_reducible refine gate_dst (N := 16) rfl ?_); refine ev_callv rfl Try.func180 (by kernel_rfl) rfl #[.string (rdOf ByteArray.empty a0 x4)] #[.string (rdOf ByteArray.empty a0 x4)] rfl rfl (by simp only [List.map_toArray, List.map_cons, List.map_nil]; rfl) (by first | rfl | simp) ?_; refine (impl_textsOk_1.calls ht10.out).mono ?_; rintro _ wt10 ⟨rfl, HQ⟩; refine ⟨_, rfl, ?_⟩; replace HS := HS.call HQ; clear HQ; (try clear F); replace HS : Hp noFP w _ [] := HS))
     by_cases c12 : t10 = true
     · replace H := zpos c12 H
       (try simp only [c12, decide_true, decide_false, Bool.not_true, Bool.not_false])
       obtain rfl := zsome H
       go_wp2
       go_ret
       exact ⟨rfl, HS.pick [] (by decide) (by rfl)⟩
     · replace H := zneg c12 H
       replace c12 := eq_false_of_ne_true c12
       (try simp only [c12, decide_true, decide_false, Bool.not_true, Bool.not_false])
       go_wp2
       go_roundg k3
       case measure => have := HKk3.out; omega
       case rel => exact ⟨_, rfl, H, ⟨by have := HKk3.out; omega⟩, HS.pick [] (by decide) (by rfl)⟩
   · replace H := zneg c6 H
     replace c6 := eq_false c6
     obtain rfl := zsome H
     go_wp2
     go_ret
     exact ⟨rfl, HS.pick [] (by decide) (by rfl)⟩
/-! ### slices_ContainsFunc_string_string_0: function 179 -/
def slices_ContainsFunc_string_string_0.f (k : Nat) (a0 : (List ByteArray)) : Option (Bool) := ((slices_IndexFunc_string_string_0.f k a0).bind fun t1 => (some (decide (0 ≤ t1))))
set_option maxHeartbeats 16000000 in
theorem slices_ContainsFunc_string_string_0.calls {k : Nat} {a0 : (List ByteArray)} {Ap0 : Option Addr} {np0 cp0 : Nat} {r : Bool} {w : World} (h : slices_ContainsFunc_string_string_0.f k a0 = some r) (gp0 : Kd.string.C w Ap0 np0 a0) (lp0 : np0 ≤ cp0) :
    Calls Try.prog 179 #[.slice Ap0 np0 cp0, .func (.func 180) #[] #[]] w (fun e w' => e = .returned (.bool r) ∧ Hp noFP w w' []) := by
 obtain rfl := C_len gp0
 have HS := Hp.start w
 have H := Aside0.mk h
 clear h
 unfold slices_ContainsFunc_string_string_0.f at H
 go_enter Try.func179, Try.ntmps179
 obtain ⟨t1, ht1, H⟩ := zbind H
 obtain rfl := zsome H
 go_wp2_with (first | ((with_reducible refine gate_dst (N := 7) rfl ?_); refine ev_call rfl Try.func184 (by kernel_rfl) rfl #[.slice Ap0 a0.length cp0, .func (.func 180) #[] #[]] rfl (by simp only [List.map_toArray, List.map_cons, List.map_nil]; rfl) ?_; refine (slices_IndexFunc_string_string_0.calls ht1.out (HS.ro gp0) lp0).mono ?_; rintro _ wt1 ⟨rfl, HQ⟩; refine ⟨_, rfl, ?_⟩; replace HS := HS.call HQ; clear HQ; (try clear F); replace HS : Hp noFP w _ [] := HS))
 go_ret
 exact ⟨rfl, HS.pick [] (by decide) (by rfl)⟩
/-! ### impl_textsOk: function 168 -/
def impl_textsOk.f (k : Nat) (a0 : (List ByteArray)) (a1 : Int) : Option (Bool) := (if (a0.length : Int) ≤ a1 then ((slices_ContainsFunc_string_string_0.f k a0).bind fun t2 => (some (!t2))) else (some false))
set_option maxHeartbeats 16000000 in
theorem impl_textsOk.calls {k : Nat} {a0 : (List ByteArray)} {a1 : Int} {Ap0 : Option Addr} {np0 cp0 : Nat} {r : Bool} {w : World} (h : impl_textsOk.f k a0 a1 = some r) (gp0 : Kd.string.C w Ap0 np0 a0) (lp0 : np0 ≤ cp0) :
    Calls Try.prog 168 #[.slice Ap0 np0 cp0, .int .i64 a1] w (fun e w' => e = .returned (.bool r) ∧ Hp noFP w w' []) := by
 obtain rfl := C_len gp0
 have HS := Hp.start w
 have H := Aside0.mk h
 clear h
 unfold impl_textsOk.f at H
 go_enter Try.func168, Try.ntmps168
 by_cases c1 : (a0.length : Int) ≤ a1
 · replace H := zpos c1 H
   replace c1 := eq_true c1
   obtain ⟨t2, ht2, H⟩ := zbind H
   obtain rfl := zsome H
   go_wp2_with (first | ((with_reducible refine gate_dst (N := 11) rfl ?_); refine gate_guard (by rfl) ?_; refine ev_call rfl Try.func179 (by kernel_rfl) rfl #[.slice Ap0 a0.length cp0, .func (.func 180) #[] #[]] rfl (by simp only [List.map_toArray, List.map_cons, List.map_nil]; rfl) ?_; refine (slices_ContainsFunc_string_string_0.calls ht2.out (HS.ro gp0) lp0).mono ?_; rintro _ wt2 ⟨rfl, HQ⟩; refine ⟨_, rfl, ?_⟩; replace HS := HS.call HQ; clear HQ; (try clear F); replace HS : Hp noFP w _ [] := HS))
   go_ret
   exact ⟨rfl, HS.pick [] (by decide) (by rfl)⟩
 · replace H := zneg c1 H
   replace c1 := eq_false c1
   obtain rfl := zsome H
   go_wp2
   go_ret
   exact ⟨rfl, HS.pick [] (by decide) (by rfl)⟩
/-! ### impl_answerOk: function 135 -/
def impl_answerOk.f (k : Nat) (a0 : S171) : Option (Bool) := ((impl_within.f a0.f0 0 2).bind fun t3 => (if t3 = true then ((impl_within.f a0.f1 0 12).bind fun t6 => (if t6 = true then ((impl_textsOk.f k a0.f2 5).bind fun t9 => (if t9 = true then ((impl_textsOk.f k a0.f3 8).bind fun t12 => (some t12)) else (some false))) else (some false))) else (some false)))
set_option maxHeartbeats 16000000 in
theorem impl_answerOk.calls {k : Nat} {a0 : S171} {Ap0 : Option Addr} {np0 cp0 : Nat} {Ap1 : Option Addr} {np1 cp1 : Nat} {r : Bool} {w : World} (h : impl_answerOk.f k a0 = some r) (gp0 : Kd.string.C w Ap0 np0 a0.f2) (lp0 : np0 ≤ cp0) (gp1 : Kd.string.C w Ap1 np1 a0.f3) (lp1 : np1 ≤ cp1) :
    Calls Try.prog 135 #[.agg #[.int .i64 a0.f0, .int .i64 a0.f1, .slice Ap0 np0 cp0, .slice Ap1 np1 cp1]] w (fun e w' => e = .returned (.bool r) ∧ Hp noFP w w' []) := by
 obtain rfl := C_len gp0
 obtain rfl := C_len gp1
 have HS := Hp.start w
 have H := Aside0.mk h
 clear h
 unfold impl_answerOk.f at H
 go_enter Try.func135, Try.ntmps135
 obtain ⟨t3, ht3, H⟩ := zbind H
 by_cases c5 : t3 = true
 · replace H := zpos c5 H
   obtain ⟨t6, ht6, H⟩ := zbind H
   by_cases c8 : t6 = true
   · replace H := zpos c8 H
     obtain ⟨t9, ht9, H⟩ := zbind H
     by_cases c11 : t9 = true
     · replace H := zpos c11 H
       obtain ⟨t12, ht12, H⟩ := zbind H
       obtain rfl := zsome H
       go_wp2_with (first | ((with_reducible refine gate_dst (N := 1) rfl ?_); refine ev_box rfl HS (by first | (go_simp; done) | (go_simp; rfl)) rfl ?_; clear HS; (try clear F); intro g1 w1 HS; replace HS : Hp noFP w _ [.box g1 [.int .i64 a0.f0, .int .i64 a0.f1, .slice Ap0 a0.f2.length cp0, .slice Ap1 a0.f3.length cp1] 171] := HS; have F := HS.boxes; simp only [boxFacts, and_true] at F) | ((with_reducible refine gate_dst (N := 5) rfl ?_); refine ev_call rfl Try.func132 (by kernel_rfl) rfl #[.int .i64 a0.f0, .int .i64 0, .int .i64 2] rfl (by simp only [List.map_toArray, List.map_cons, List.map_nil]; rfl) ?_; refine (impl_within.calls ht3.out).mono ?_; rintro _ wt3 ⟨rfl, HQ⟩; refine ⟨_, rfl, ?_⟩; replace HS := HS.call HQ; clear HQ; (try clear F); replace HS : Hp noFP w _ [.box g1 [.int .i64 a0.f0, .int .i64 a0.f1, .slice Ap0 a0.f2.length cp0, .slice Ap1 a0.f3.length cp1] 171] := HS; have F := HS.boxes; simp only [boxFacts, and_true] at F; (try simp only [c5])) | ((with_reducible refine gate_dst (N := 9) rfl ?_); refine gate_guard (by rfl) ?_; refine ev_call rfl Try.func132 (by kernel_rfl) rfl #[.int .i64 a0.f1, .int .i64 0, .int .i64 12] rfl (by simp only [List.map_toArray, List.map_cons, List.map_nil]; rfl) ?_; refine (impl_within.calls ht6.out).mono ?_; rintro _ wt6 ⟨rfl, HQ⟩; refine ⟨_, rfl, ?_⟩; replace HS := HS.call HQ; clear HQ; (try clear F); replace HS : Hp noFP w _ [.box g1 [.int .i64 a0.f0, .int .i64 a0.f1, .slice Ap0 a0.f2.length cp0, .slice Ap1 a0.f3.length cp1] 171] := HS; have F := HS.boxes; simp only [boxFacts, and_true] at F; (try simp only [c8])) | ((with_reducible refine gate_dst (N := 14) rfl ?_); refine gate_guard (by rfl) ?_; refine ev_call rfl Try.func168 (by kernel_rfl) rfl #[.slice Ap0 a0.f2.length cp0, .int .i64 5] rfl (by simp only [List.map_toArray, List.map_cons, List.map_nil]; rfl) ?_; refine (impl_textsOk.calls ht9.out (HS.ro gp0) lp0).mono ?_; rintro _ wt9 ⟨rfl, HQ⟩; refine ⟨_, rfl, ?_⟩; replace HS := HS.call HQ; clear HQ; (try clear F); replace HS : Hp noFP w _ [.box g1 [.int .i64 a0.f0, .int .i64 a0.f1, .slice Ap0 a0.f2.length cp0, .slice Ap1 a0.f3.length cp1] 171] := HS; have F := HS.boxes; simp only [boxFacts, and_true] at F; (try simp only [c11])) | ((with_reducible refine gate_dst (N := 19) rfl ?_); refine gate_guard (by rfl) ?_; refine ev_call rfl Try.func168 (by kernel_rfl) rfl #[.slice Ap1 a0.f3.length cp1, .int .i64 8] rfl (by simp only [List.map_toArray, List.map_cons, List.map_nil]; rfl) ?_; refine (impl_textsOk.calls ht12.out (HS.ro gp1) lp1).mono ?_; rintro _ wt12 ⟨rfl, HQ⟩; refine ⟨_, rfl, ?_⟩; replace HS := HS.call HQ; clear HQ; (try clear F); replace HS : Hp noFP w _ [.box g1 [.int .i64 a0.f0, .int .i64 a0.f1, .slice Ap0 a0.f2.length cp0, .slice Ap1 a0.f3.length cp1] 171] := HS; have F := HS.boxes; simp only [boxFacts, and_true] at F))
       go_ret
       exact ⟨rfl, HS.pick [] (by decide) (by rfl)⟩
     · replace H := zneg c11 H
       replace c11 := eq_false_of_ne_true c11
       obtain rfl := zsome H
       go_wp2_with (first | ((with_reducible refine gate_dst (N := 1) rfl ?_); refine ev_box rfl HS (by first | (go_simp; done) | (go_simp; rfl)) rfl ?_; clear HS; (try clear F); intro g1 w1 HS; replace HS : Hp noFP w _ [.box g1 [.int .i64 a0.f0, .int .i64 a0.f1, .slice Ap0 a0.f2.length cp0, .slice Ap1 a0.f3.length cp1] 171] := HS; have F := HS.boxes; simp only [boxFacts, and_true] at F) | ((with_reducible refine gate_dst (N := 5) rfl ?_); refine ev_call rfl Try.func132 (by kernel_rfl) rfl #[.int .i64 a0.f0, .int .i64 0, .int .i64 2] rfl (by simp only [List.map_toArray, List.map_cons, List.map_nil]; rfl) ?_; refine (impl_within.calls ht3.out).mono ?_; rintro _ wt3 ⟨rfl, HQ⟩; refine ⟨_, rfl, ?_⟩; replace HS := HS.call HQ; clear HQ; (try clear F); replace HS : Hp noFP w _ [.box g1 [.int .i64 a0.f0, .int .i64 a0.f1, .slice Ap0 a0.f2.length cp0, .slice Ap1 a0.f3.length cp1] 171] := HS; have F := HS.boxes; simp only [boxFacts, and_true] at F; (try simp only [c5])) | ((with_reducible refine gate_dst (N := 9) rfl ?_); refine gate_guard (by rfl) ?_; refine ev_call rfl Try.func132 (by kernel_rfl) rfl #[.int .i64 a0.f1, .int .i64 0, .int .i64 12] rfl (by simp only [List.map_toArray, List.map_cons, List.map_nil]; rfl) ?_; refine (impl_within.calls ht6.out).mono ?_; rintro _ wt6 ⟨rfl, HQ⟩; refine ⟨_, rfl, ?_⟩; replace HS := HS.call HQ; clear HQ; (try clear F); replace HS : Hp noFP w _ [.box g1 [.int .i64 a0.f0, .int .i64 a0.f1, .slice Ap0 a0.f2.length cp0, .slice Ap1 a0.f3.length cp1] 171] := HS; have F := HS.boxes; simp only [boxFacts, and_true] at F; (try simp only [c8])) | ((with_reducible refine gate_dst (N := 14) rfl ?_); refine gate_guard (by rfl) ?_; refine ev_call rfl Try.func168 (by kernel_rfl) rfl #[.slice Ap0 a0.f2.length cp0, .int .i64 5] rfl (by simp only [List.map_toArray, List.map_cons, List.map_nil]; rfl) ?_; refine (impl_textsOk.calls ht9.out (HS.ro gp0) lp0).mono ?_; rintro _ wt9 ⟨rfl, HQ⟩; refine ⟨_, rfl, ?_⟩; replace HS := HS.call HQ; clear HQ; (try clear F); replace HS : Hp noFP w _ [.box g1 [.int .i64 a0.f0, .int .i64 a0.f1, .slice Ap0 a0.f2.length cp0, .slice Ap1 a0.f3.length cp1] 171] := HS; have F := HS.boxes; simp only [boxFacts, and_true] at F; (try simp only [c11])))
       go_ret
       exact ⟨rfl, HS.pick [] (by decide) (by rfl)⟩
   · replace H := zneg c8 H
     replace c8 := eq_false_of_ne_true c8
     obtain rfl := zsome H
     go_wp2_with (first | ((with_reducible refine gate_dst (N := 1) rfl ?_); refine ev_box rfl HS (by first | (go_simp; done) | (go_simp; rfl)) rfl ?_; clear HS; (try clear F); intro g1 w1 HS; replace HS : Hp noFP w _ [.box g1 [.int .i64 a0.f0, .int .i64 a0.f1, .slice Ap0 a0.f2.length cp0, .slice Ap1 a0.f3.length cp1] 171] := HS; have F := HS.boxes; simp only [boxFacts, and_true] at F) | ((with_reducible refine gate_dst (N := 5) rfl ?_); refine ev_call rfl Try.func132 (by kernel_rfl) rfl #[.int .i64 a0.f0, .int .i64 0, .int .i64 2] rfl (by simp only [List.map_toArray, List.map_cons, List.map_nil]; rfl) ?_; refine (impl_within.calls ht3.out).mono ?_; rintro _ wt3 ⟨rfl, HQ⟩; refine ⟨_, rfl, ?_⟩; replace HS := HS.call HQ; clear HQ; (try clear F); replace HS : Hp noFP w _ [.box g1 [.int .i64 a0.f0, .int .i64 a0.f1, .slice Ap0 a0.f2.length cp0, .slice Ap1 a0.f3.length cp1] 171] := HS; have F := HS.boxes; simp only [boxFacts, and_true] at F; (try simp only [c5])) | ((with_reducible refine gate_dst (N := 9) rfl ?_); refine gate_guard (by rfl) ?_; refine ev_call rfl Try.func132 (by kernel_rfl) rfl #[.int .i64 a0.f1, .int .i64 0, .int .i64 12] rfl (by simp only [List.map_toArray, List.map_cons, List.map_nil]; rfl) ?_; refine (impl_within.calls ht6.out).mono ?_; rintro _ wt6 ⟨rfl, HQ⟩; refine ⟨_, rfl, ?_⟩; replace HS := HS.call HQ; clear HQ; (try clear F); replace HS : Hp noFP w _ [.box g1 [.int .i64 a0.f0, .int .i64 a0.f1, .slice Ap0 a0.f2.length cp0, .slice Ap1 a0.f3.length cp1] 171] := HS; have F := HS.boxes; simp only [boxFacts, and_true] at F; (try simp only [c8])))
     go_ret
     exact ⟨rfl, HS.pick [] (by decide) (by rfl)⟩
 · replace H := zneg c5 H
   replace c5 := eq_false_of_ne_true c5
   obtain rfl := zsome H
   go_wp2_with (first | ((with_reducible refine gate_dst (N := 1) rfl ?_); refine ev_box rfl HS (by first | (go_simp; done) | (go_simp; rfl)) rfl ?_; clear HS; (try clear F); intro g1 w1 HS; replace HS : Hp noFP w _ [.box g1 [.int .i64 a0.f0, .int .i64 a0.f1, .slice Ap0 a0.f2.length cp0, .slice Ap1 a0.f3.length cp1] 171] := HS; have F := HS.boxes; simp only [boxFacts, and_true] at F) | ((with_reducible refine gate_dst (N := 5) rfl ?_); refine ev_call rfl Try.func132 (by kernel_rfl) rfl #[.int .i64 a0.f0, .int .i64 0, .int .i64 2] rfl (by simp only [List.map_toArray, List.map_cons, List.map_nil]; rfl) ?_; refine (impl_within.calls ht3.out).mono ?_; rintro _ wt3 ⟨rfl, HQ⟩; refine ⟨_, rfl, ?_⟩; replace HS := HS.call HQ; clear HQ; (try clear F); replace HS : Hp noFP w _ [.box g1 [.int .i64 a0.f0, .int .i64 a0.f1, .slice Ap0 a0.f2.length cp0, .slice Ap1 a0.f3.length cp1] 171] := HS; have F := HS.boxes; simp only [boxFacts, and_true] at F; (try simp only [c5])))
   go_ret
   exact ⟨rfl, HS.pick [] (by decide) (by rfl)⟩
/-! ### impl_ReplyOk_1: function 134 -/
def impl_ReplyOk_1.f (k : Nat) (a0 : S171) : Option (Bool) := ((impl_answerOk.f k a0).bind fun t3 => (some (!t3)))
set_option maxHeartbeats 16000000 in
theorem impl_ReplyOk_1.calls {k : Nat} {a0 : S171} {Ap0 : Option Addr} {np0 cp0 : Nat} {Ap1 : Option Addr} {np1 cp1 : Nat} {r : Bool} {w : World} (h : impl_ReplyOk_1.f k a0 = some r) (gp0 : Kd.string.C w Ap0 np0 a0.f2) (lp0 : np0 ≤ cp0) (gp1 : Kd.string.C w Ap1 np1 a0.f3) (lp1 : np1 ≤ cp1) :
    Calls Try.prog 134 #[.agg #[.int .i64 a0.f0, .int .i64 a0.f1, .slice Ap0 np0 cp0, .slice Ap1 np1 cp1]] w (fun e w' => e = .returned (.bool r) ∧ Hp noFP w w' []) := by
 obtain rfl := C_len gp0
 obtain rfl := C_len gp1
 have HS := Hp.start w
 have H := Aside0.mk h
 clear h
 unfold impl_ReplyOk_1.f at H
 go_enter Try.func134, Try.ntmps134
 obtain ⟨t3, ht3, H⟩ := zbind H
 obtain rfl := zsome H
 go_wp2_with (first | ((with_reducible refine gate_dst (N := 1) rfl ?_); refine ev_box rfl HS (by first | (go_simp; done) | (go_simp; rfl)) rfl ?_; clear HS; (try clear F); intro g1 w1 HS; replace HS : Hp noFP w _ [.box g1 [.int .i64 a0.f0, .int .i64 a0.f1, .slice Ap0 a0.f2.length cp0, .slice Ap1 a0.f3.length cp1] 171] := HS; have F := HS.boxes; simp only [boxFacts, and_true] at F) | ((with_reducible refine gate_dst (N := 4) rfl ?_); refine ev_call rfl Try.func135 (by kernel_rfl) rfl #[.agg #[.int .i64 a0.f0, .int .i64 a0.f1, .slice Ap0 a0.f2.length cp0, .slice Ap1 a0.f3.length cp1]] rfl (by simp only [List.map_toArray, List.map_cons, List.map_nil]; rfl) ?_; refine (impl_answerOk.calls ht3.out (HS.ro gp0) lp0 (HS.ro gp1) lp1).mono ?_; rintro _ wt3 ⟨rfl, HQ⟩; refine ⟨_, rfl, ?_⟩; replace HS := HS.call HQ; clear HQ; (try clear F); replace HS : Hp noFP w _ [.box g1 [.int .i64 a0.f0, .int .i64 a0.f1, .slice Ap0 a0.f2.length cp0, .slice Ap1 a0.f3.length cp1] 171] := HS; have F := HS.boxes; simp only [boxFacts, and_true] at F))
 go_ret
 exact ⟨rfl, HS.pick [] (by decide) (by rfl)⟩
/-! ### impl_Answer_167_0: function 167 -/
def impl_Answer_167_0.l0 : Nat → Int → (List S171) → Option (Int)
  | 0, _, _ => none
  | k + 1, x4, a0 => (if x4 < (a0.length : Int) then (if 0 ≤ x4 then (if x4 < (a0.length : Int) then ((impl_ReplyOk_1.f k (rd_T171 a0 x4)).bind fun t10 => (if t10 = true then (some x4) else (impl_Answer_167_0.l0 k (wrap64 (x4 + 1)) a0))) else none) else none) else (some (-1)))
def impl_Answer_167_0.f (k : Nat) (a0 : (List S171)) : Option (Int) := (impl_Answer_167_0.l0 k 0 a0)
set_option maxHeartbeats 16000000 in
theorem impl_Answer_167_0.calls {k : Nat} {a0 : (List S171)} {Ap0 : Option Addr} {np0 cp0 : Nat} {r : Int} {w : World} (h : impl_Answer_167_0.f k a0 = some r) (gp0 : k171.C w Ap0 np0 a0) (lp0 : np0 ≤ cp0) :
    Calls Try.prog 167 #[.slice Ap0 np0 cp0, .func (.func 134) #[] #[]] w (fun e w' => e = .returned (.int .i64 r) ∧ Hp noFP w w' []) := by
 obtain rfl := C_len gp0
 have HS := Hp.start w
 have H := Aside0.mk h
 clear h
 unfold impl_Answer_167_0.f at H
 go_enter Try.func167, Try.ntmps167
 go_wp2
 go_loopg [8] k (fun kq v_8 w' => ∃ (x4 : Int), v_8 = .int .i64 x4 ∧ Aside0 (impl_Answer_167_0.l0 kq x4 a0 = some r) ∧ Aside0 (kq ≤ k) ∧ Hp noFP w w' [])
 case atStart => exact ⟨_, rfl, H, ⟨Nat.le_refl _⟩, HS⟩
 case round =>
  clear HS H; (try clear F)
  obtain ⟨x4, rfl, H, HKk3, HS⟩ := hrel
  cases gk with
  | zero => exact absurd H.out (by simp [impl_Answer_167_0.l0])
  | succ k3 =>
   simp only [impl_Answer_167_0.l0] at H
   by_cases c6 : x4 < (a0.length : Int)
   · replace H := zpos c6 H
     replace c6 := eq_true c6
     by_cases c7 : 0 ≤ x4
     case neg => exact zno c7 H
     replace H := zpos c7 H
     replace c7 := eq_true c7
     by_cases c8 : x4 < (a0.length : Int)
     case neg => exact zno c8 H
     replace H := zpos c8 H
     replace c8 := eq_true c8
     obtain ⟨ad9, B9_2, d9_2, B9_3, d9_3, rfl, e9_0, e9_1, e9_2, e9_3, m9_2, y9_2, m9_3, y9_3⟩ := at_T171 gp0 x4 (of_eq_true c7) (of_eq_true c8)
     have e9_0_9 := HS.keepc e9_0
     have e9_1_9 := HS.keepc e9_1
     have e9_2_9 := HS.keepc e9_2
     have e9_3_9 := HS.keepc e9_3
     obtain ⟨t10, ht10, H⟩ := zbind H
     go_upto_if 16 with (first | ((with_reducible refine gate_dst (N := 16) rfl ?_); refine ev_callv rfl Try.func134 (by kernel_rfl) rfl #[.agg #[.int .i64 ((rd_T171 a0 x4).f0), .int .i64 ((rd_T171 a0 x4).f1), .slice B9_2 (rd_T171 a0 x4).f2.length d9_2, .slice B9_3 (rd_T171 a0 x4).f3.length d9_3]] #[.agg #[.int .i64 ((rd_T171 a0 x4).f0), .int .i64 ((rd_T171 a0 x4).f1), .slice B9_2 (rd_T171 a0 x4).f2.length d9_2, .slice B9_3 (rd_T171 a0 x4).f3.length d9_3]] rfl rfl (by simp only [List.map_toArray, List.map_cons, List.map_nil]; rfl) (by first | rfl | simp) ?_; refine (impl_ReplyOk_1.calls ht10.out (HS.ro y9_2) m9_2 (HS.ro y9_3) m9_3).mono ?_; rintro _ wt10 ⟨rfl, HQ⟩; refine ⟨_, rfl, ?_⟩; replace HS := HS.call HQ; clear HQ; (try clear F); replace HS : Hp noFP w _ [] := HS))
     by_cases c12 : t10 = true
     · replace H := zpos c12 H
       (try simp only [c12, decide_true, decide_false, Bool.not_true, Bool.not_false])
       obtain rfl := zsome H
       go_wp2
       go_ret
       exact ⟨rfl, HS.pick [] (by decide) (by rfl)⟩
     · replace H := zneg c12 H
       replace c12 := eq_false_of_ne_true c12
       (try simp only [c12, decide_true, decide_false, Bool.not_true, Bool.not_false])
       go_wp2
       go_roundg k3
       case measure => have := HKk3.out; omega
       case rel => exact ⟨_, rfl, H, ⟨by have := HKk3.out; omega⟩, HS.pick [] (by decide) (by rfl)⟩
   · replace H := zneg c6 H
     replace c6 := eq_false c6
     obtain rfl := zsome H
     go_wp2
     go_ret
     exact ⟨rfl, HS.pick [] (by decide) (by rfl)⟩
/-! ### impl_Answer_133_0: function 133 -/
def impl_Answer_133_0.f (k : Nat) (a0 : (List S171)) : Option (Bool) := ((impl_Answer_167_0.f k a0).bind fun t1 => (some (decide (0 ≤ t1))))
set_option maxHeartbeats 16000000 in
theorem impl_Answer_133_0.calls {k : Nat} {a0 : (List S171)} {Ap0 : Option Addr} {np0 cp0 : Nat} {r : Bool} {w : World} (h : impl_Answer_133_0.f k a0 = some r) (gp0 : k171.C w Ap0 np0 a0) (lp0 : np0 ≤ cp0) :
    Calls Try.prog 133 #[.slice Ap0 np0 cp0, .func (.func 134) #[] #[]] w (fun e w' => e = .returned (.bool r) ∧ Hp noFP w w' []) := by
 obtain rfl := C_len gp0
 have HS := Hp.start w
 have H := Aside0.mk h
 clear h
 unfold impl_Answer_133_0.f at H
 go_enter Try.func133, Try.ntmps133
 obtain ⟨t1, ht1, H⟩ := zbind H
 obtain rfl := zsome H
 go_wp2_with (first | ((with_reducible refine gate_dst (N := 7) rfl ?_); refine ev_call rfl Try.func167 (by kernel_rfl) rfl #[.slice Ap0 a0.length cp0, .func (.func 134) #[] #[]] rfl (by simp only [List.map_toArray, List.map_cons, List.map_nil]; rfl) ?_; refine (impl_Answer_167_0.calls ht1.out (HS.ro gp0) lp0).mono ?_; rintro _ wt1 ⟨rfl, HQ⟩; refine ⟨_, rfl, ?_⟩; replace HS := HS.call HQ; clear HQ; (try clear F); replace HS : Hp noFP w _ [] := HS))
 go_ret
 exact ⟨rfl, HS.pick [] (by decide) (by rfl)⟩
end Go.Proofs.Ytdcjcanobiohnaa.F
