/- Functions of the program and of the law, and that their calls do what is written here. -/
import Derived.Test.YtdcjcanobiohnaaZgFnExactReplyTexta
import Derived.Test.YtdcjcanobiohnaaZgFnExactReplyTextb
namespace Go.Proofs.Ytdcjcanobiohnaa.F
open Go.RowKit Go.Proofs.YtdcjcanobiohnaaW.PrintWords Go.Proofs.YtdcjcanobiohnaaW.PrintLast Go.Proofs.YtdcjcanobiohnaaW.PrintMore Go.Proofs.Ytdcjcanobiohnaa.Z
attribute [local go_sem] max2_int min2_int max_two min_two max_three min_three max_four min_four
set_option linter.unusedVariables false
set_option linter.unusedSimpArgs false
set_option maxRecDepth 100000
/-! ### spec_l15Item: function 65 -/
def spec_l15Item.l0 : Nat → (List S107) → Int → S49 → Option (S107)
  | 0, _, _, _ => none
  | k + 1, l28, x30, a0 => (if x30 < (a0.f6.length : Int) then (if 0 ≤ x30 then (if x30 < (a0.f6.length : Int) then ((spec_IntItem.f k ((rd_T171 a0.f6 x30).f0)).bind fun t204001 => ((spec_IntItem.f k ((rd_T171 a0.f6 x30).f1)).bind fun t207001 => ((spec_l14Texts.f k ((rd_T171 a0.f6 x30).f2)).bind fun t210001 => ((spec_l14Texts.f k ((rd_T171 a0.f6 x30).f3)).bind fun t213001 => (if l28.length + 1 ≤ 2932031007402 then (lets (l28 ++ ([(⟨48, (⟨#[]⟩ : ByteArray), ([t204001, t207001, t210001, t213001] : List S107)⟩ : S107)] : List S107)) fun y217002 => (spec_l15Item.l0 k y217002 (wrap64 (x30 + 1)) a0)) else none))))) else none) else none) else ((spec_l09Bytes.f a0.f0).bind fun t302001 => ((spec_IntItem.f k a0.f1).bind fun t305001 => ((spec_IntItem.f k a0.f2).bind fun t308001 => ((spec_IntItem.f k a0.f3).bind fun t311001 => ((spec_IntItem.f k a0.f4).bind fun t314001 => ((spec_IntItem.f k a0.f5).bind fun t317001 => (some (⟨48, (⟨#[]⟩ : ByteArray), ([t302001, t305001, t308001, t311001, t314001, t317001, (⟨48, (⟨#[]⟩ : ByteArray), l28⟩ : S107)] : List S107)⟩ : S107)))))))))
def spec_l15Item.f (k : Nat) (a0 : S49) : Option (S107) := (spec_l15Item.l0 k [] 0 a0)
def spec_l15Item.T6 : Bool × List (List Nat × List Nat) := (true, [([], []), ([0], [0]), ([], []), ([2], [2]), ([3], [3]), ([], []), ([5], [5]), ([6, 4], [6]), ([], []), ([8], [8]), ([9, 7], [9]), ([], []), ([11], [11]), ([12, 10], [12]), ([4, 7, 10, 13], [4, 7, 10, 13]), ([14], [14]), ([15], [15]), ([1, 16, 13], [1, 16]), ([0, 1, 2, 3, 4, 5, 6, 7, 8, 9, 10, 11, 12, 13, 14, 15, 16, 17], []), ([18, 17, 17, 0, 1, 2, 3, 4, 5, 6, 7, 8, 9, 10, 11, 12, 13, 14, 15, 16, 17], [17, 18])])
theorem spec_l15Item.tT6 : rtab .any (opsOf Try.f65 6) = spec_l15Item.T6 := by kernel_rfl
def spec_l15Item.T7 : Bool × List (List Nat × List Nat) := (true, [([], []), ([0], [0]), ([1], [1]), ([], []), ([3], [3]), ([4, 2], [4]), ([], []), ([6], [6]), ([7, 5], [7]), ([], []), ([9], [9]), ([10, 8], [10]), ([], []), ([12], [12]), ([13, 11], [13]), ([], []), ([15], [15]), ([16, 14], [16]), ([], []), ([2, 5, 8, 11, 14, 17, 18], [2, 5, 8, 11, 14, 17, 18]), ([19], [19]), ([20, 17, 0, 1, 2, 3, 4, 5, 6, 7, 8, 9, 10, 11, 12, 13, 14, 15, 16, 17, 18, 19, 20], [20])])
theorem spec_l15Item.tT7 : rtab .any (opsOf Try.f65 7) = spec_l15Item.T7 := by kernel_rfl
set_option maxHeartbeats 16000000 in
theorem spec_l15Item.calls {k : Nat} {a0 : S49} {Ap0 : Option Addr} {np0 cp0 : Nat} {r : S107} {w : World} (h : spec_l15Item.f k a0 = some r) (gp0 : k171.C w Ap0 np0 a0.f6) (lp0 : np0 ≤ cp0) :
    Calls Try.prog 65 #[.agg #[.string a0.f0, .int .i64 a0.f1, .int .i64 a0.f2, .int .i64 a0.f3, .int .i64 a0.f4, .int .i64 a0.f5, .slice Ap0 np0 cp0, .string a0.f7]] w (fun e w' => ∃ v0_ : Value, e = .returned (.agg #[.int .i64 r.f0, .string r.f1, v0_]) ∧ Hp noFP w w' [.own (Zd.slice 107 q107) r.f2 [v0_]]) := by
 obtain rfl := C_len gp0
 have HS := Hp.start w
 have H := Aside0.mk h
 clear h
 unfold spec_l15Item.f at H
 go_enter Try.func65, Try.ntmps65
 go_wp2_with (first | ((with_reducible refine gate_dst (N := 1) rfl ?_); refine ev_box rfl HS (by first | (go_simp; done) | (go_simp; rfl)) rfl ?_; clear HS; (try clear F); intro g1 w1 HS; replace HS : Hp noFP w _ [.box g1 [.string a0.f0, .int .i64 a0.f1, .int .i64 a0.f2, .int .i64 a0.f3, .int .i64 a0.f4, .int .i64 a0.f5, .slice Ap0 a0.f6.length cp0, .string a0.f7] 49] := HS; have F := HS.boxes; simp only [boxFacts, and_true] at F) | ((with_reducible refine gate_dst (N := 2) rfl ?_); refine ev_box rfl HS (by first | (go_simp; done) | (go_simp; rfl)) rfl ?_; clear HS; (try clear F); intro g2 w2 HS; replace HS : Hp noFP w _ [.box g1 [.string a0.f0, .int .i64 a0.f1, .int .i64 a0.f2, .int .i64 a0.f3, .int .i64 a0.f4, .int .i64 a0.f5, .slice Ap0 a0.f6.length cp0, .string a0.f7] 49, .box g2 [.int .i64 0, .string (⟨#[]⟩ : ByteArray), .slice none 0 0] 107] := HS; have F := HS.boxes; simp only [boxFacts, and_true] at F) | ((with_reducible refine gate_dst (N := 3) rfl ?_); refine ev_box rfl HS (by first | (go_simp; done) | (go_simp; rfl)) rfl ?_; clear HS; (try clear F); intro g3 w3 HS; replace HS : Hp noFP w _ [.box g1 [.string a0.f0, .int .i64 a0.f1, .int .i64 a0.f2, .int .i64 a0.f3, .int .i64 a0.f4, .int .i64 a0.f5, .slice Ap0 a0.f6.length cp0, .string a0.f7] 49, .box g2 [.int .i64 0, .string (⟨#[]⟩ : ByteArray), .slice none 0 0] 107, .box g3 [.int .i64 0, .string (⟨#[]⟩ : ByteArray), .slice none 0 0] 107] := HS; have F := HS.boxes; simp only [boxFacts, and_true] at F) | ((with_reducible refine gate_store (p := 3) rfl ?_); refine ev_store rfl 2 0 HS (seg := [.int .i64 48, .string (⟨#[]⟩ : ByteArray), .slice none 0 0]) rfl rfl rfl rfl rfl rfl (by kernel_rfl) (by simp [wrt]) (by simp [Value.oneCell']) ?_; clear HS; (try clear F); intro w7 HS; replace HS : Hp noFP w _ [.box g1 [.string a0.f0, .int .i64 a0.f1, .int .i64 a0.f2, .int .i64 a0.f3, .int .i64 a0.f4, .int .i64 a0.f5, .slice Ap0 a0.f6.length cp0, .string a0.f7] 49, .box g2 [.int .i64 0, .string (⟨#[]⟩ : ByteArray), .slice none 0 0] 107, .box g3 [.int .i64 48, .string (⟨#[]⟩ : ByteArray), .slice none 0 0] 107] := HS; have F := HS.boxes; simp only [boxFacts, and_true] at F))
 replace HS := HS.nil 107 q107
 go_loopg [4] k (fun kq v_4 w' => ∃ (l28 : List S107) (v29 : Value) (x30 : Int), v_4 = .int .i64 x30 ∧ Aside0 (spec_l15Item.l0 kq l28 x30 a0 = some r) ∧ Aside0 (kq ≤ k) ∧ Hp noFP w w' [.box g1 [.string a0.f0, .int .i64 a0.f1, .int .i64 a0.f2, .int .i64 a0.f3, .int .i64 a0.f4, .int .i64 a0.f5, .slice Ap0 a0.f6.length cp0, .string a0.f7] 49, .box g2 [.int .i64 0, .string (⟨#[]⟩ : ByteArray), .slice none 0 0] 107, .box g3 [.int .i64 48, .string (⟨#[]⟩ : ByteArray), v29] 107, .own (Zd.slice 107 q107) l28 [v29]])
 case atStart => exact ⟨_, _, _, rfl, H, ⟨Nat.le_refl _⟩, HS⟩
 case round =>
  clear HS H; (try clear F)
  obtain ⟨l28, v29, x30, rfl, H, HKk27, HS⟩ := hrel
  obtain ⟨B29, d29, rfl, m29⟩ := HS.form 3 rfl
  have F := HS.boxes; simp only [boxFacts, and_true] at F
  cases gk with
  | zero => exact absurd H.out (by simp [spec_l15Item.l0])
  | succ k27 =>
   simp only [spec_l15Item.l0] at H
   by_cases c32 : x30 < (a0.f6.length : Int)
   · replace H := zpos c32 H
     replace c32 := eq_true c32
     by_cases c33 : 0 ≤ x30
     case neg => exact zno c33 H
     replace H := zpos c33 H
     replace c33 := eq_true c33
     by_cases c34 : x30 < (a0.f6.length : Int)
     case neg => exact zno c34 H
     replace H := zpos c34 H
     replace c34 := eq_true c34
     obtain ⟨ad35, B35_2, d35_2, B35_3, d35_3, rfl, e35_0, e35_1, e35_2, e35_3, m35_2, y35_2, m35_3, y35_3⟩ := at_T171 gp0 x30 (of_eq_true c33) (of_eq_true c34)
     have e35_0_35 := HS.keepc e35_0
     have e35_1_35 := HS.keepc e35_1
     have e35_2_35 := HS.keepc e35_2
     have e35_3_35 := HS.keepc e35_3
     go_wp2_with (first | ((with_reducible refine gate_dst (N := 5) rfl ?_); refine ev_box rfl HS (by first | (go_simp; done) | (go_simp; rfl)) rfl ?_; clear HS; (try clear F); intro g5 w5 HS; replace HS : Hp noFP w _ [.box g1 [.string a0.f0, .int .i64 a0.f1, .int .i64 a0.f2, .int .i64 a0.f3, .int .i64 a0.f4, .int .i64 a0.f5, .slice (some ad35) a0.f6.length cp0, .string a0.f7] 49, .box g2 [.int .i64 0, .string (⟨#[]⟩ : ByteArray), .slice none 0 0] 107, .box g3 [.int .i64 48, .string (⟨#[]⟩ : ByteArray), .slice B29 l28.length d29] 107, .own (Zd.slice 107 q107) l28 [.slice B29 l28.length d29], .box g5 [.int .i64 0, .int .i64 0, .slice none 0 0, .slice none 0 0] 171] := HS; have F := HS.boxes; simp only [boxFacts, and_true] at F) | ((with_reducible refine gate_store (p := 5) rfl ?_); refine ev_store rfl 4 0 HS (seg := [.int .i64 ((rd_T171 a0.f6 x30).f0), .int .i64 ((rd_T171 a0.f6 x30).f1), .slice B35_2 (rd_T171 a0.f6 x30).f2.length d35_2, .slice B35_3 (rd_T171 a0.f6 x30).f3.length d35_3]) rfl rfl rfl rfl rfl rfl (by kernel_rfl) (by simp [wrt]) (by simp [Value.oneCell']) ?_; clear HS; (try clear F); intro w38 HS; replace HS : Hp noFP w _ [.box g1 [.string a0.f0, .int .i64 a0.f1, .int .i64 a0.f2, .int .i64 a0.f3, .int .i64 a0.f4, .int .i64 a0.f5, .slice (some ad35) a0.f6.length cp0, .string a0.f7] 49, .box g2 [.int .i64 0, .string (⟨#[]⟩ : ByteArray), .slice none 0 0] 107, .box g3 [.int .i64 48, .string (⟨#[]⟩ : ByteArray), .slice B29 l28.length d29] 107, .own (Zd.slice 107 q107) l28 [.slice B29 l28.length d29], .box g5 [.int .i64 ((rd_T171 a0.f6 x30).f0), .int .i64 ((rd_T171 a0.f6 x30).f1), .slice B35_2 (rd_T171 a0.f6 x30).f2.length d35_2, .slice B35_3 (rd_T171 a0.f6 x30).f3.length d35_3] 171] := HS; have F := HS.boxes; simp only [boxFacts, and_true] at F))
     obtain ⟨t204001, ht204001, H⟩ := zbind H
     obtain ⟨t207001, ht207001, H⟩ := zbind H
     obtain ⟨t210001, ht210001, H⟩ := zbind H
     obtain ⟨t213001, ht213001, H⟩ := zbind H
     by_cases c217001 : l28.length + 1 ≤ 2932031007402
     case neg => exact zno c217001 H
     replace H := zpos c217001 H
     replace c217001 := eq_true c217001
     obtain ⟨y217002, e_y217002, H⟩ := zlets H
     refine dr_start2 [.box g1 [.string a0.f0, .int .i64 a0.f1, .int .i64 a0.f2, .int .i64 a0.f3, .int .i64 a0.f4, .int .i64 a0.f5, .slice (some ad35) a0.f6.length cp0, .string a0.f7] 49, .box g2 [.int .i64 0, .string (⟨#[]⟩ : ByteArray), .slice none 0 0] 107, .box g3 [.int .i64 48, .string (⟨#[]⟩ : ByteArray), .slice B29 l28.length d29] 107, .emp, .box g5 [.int .i64 ((rd_T171 a0.f6 x30).f0), .int .i64 ((rd_T171 a0.f6 x30).f1), .slice B35_2 (rd_T171 a0.f6 x30).f2.length d35_2, .slice B35_3 (rd_T171 a0.f6 x30).f3.length d35_3] 171] [19] HS (HS.arr [some 0, some 1, some 2, none, some 4] (by decide)) #[false, false, false, false, false, false, false, false, false, false, false, false, false, false, false, false, false, false, false, false] (by kernel_rfl) rfl rfl spec_l15Item.tT6 (fun w41 HT HS HH => ?_)
     (try clear F)
     refine drq_of [(0, some 19), (1, some 20), (2, some 21), (3, some 22), (5, some 24), (6, some 25), (8, some 27), (9, some 28), (11, some 30), (12, some 31)] ?_
     repeat (first | (refine drq_pure HT (v := ?_) (a' := ?_) rfl rfl (by kernel_rfl) (fun _ _ _ h => h) (.inl ⟨by rfl, ?_⟩) ?_ ?_; rotate_left; (intro w'; go_simp; with_reducible rfl); rotate_left; (simp only [Act.put, List.setIfInBounds_toArray, List.set_cons_zero, List.set_cons_succ, i64_w, i32_w]; rfl)) | (refine drq_take HT HH (v := ?_) (a' := ?_) rfl rfl (by kernel_rfl) (fun _ _ _ h => h) (.inl ⟨by rfl, ?_⟩) ?_ ?_; rotate_left; (rintro w' ⟨rs', HS'⟩; have F := HS'.boxes; simp only [boxFacts, List.cons_append, List.nil_append, and_true] at F; go_simp; with_reducible rfl); rotate_left; (simp only [Act.put, List.setIfInBounds_toArray, List.set_cons_zero, List.set_cons_succ, i64_w, i32_w]; rfl)))
     refine drq_end ?_
     refine dr_one 4 HT rfl (by kernel_rfl) (by decide) (fun K hK => ?_)
     refine goes_ Try.func121 (by kernel_rfl) rfl #[.int .i64 ((rd_T171 a0.f6 x30).f0)] (by rfl) rfl rfl (by simp only [List.map_toArray, List.map_cons, List.map_nil]; rfl) ?_; refine (spec_IntItem.calls ht204001.out).mono ?_; rintro _ wt204001 ⟨v204002, rfl, HQ⟩; refine ⟨_, rfl, ?_⟩; replace HS := HS.call HQ; clear HQ; (try clear F); obtain ⟨B204002, d204002, rfl, m204002⟩ := HS.form 5 rfl
     replace HS : Hp noFP w _ [.box g1 [.string a0.f0, .int .i64 a0.f1, .int .i64 a0.f2, .int .i64 a0.f3, .int .i64 a0.f4, .int .i64 a0.f5, .slice (some ad35) a0.f6.length cp0, .string a0.f7] 49, .box g2 [.int .i64 0, .string (⟨#[]⟩ : ByteArray), .slice none 0 0] 107, .box g3 [.int .i64 48, .string (⟨#[]⟩ : ByteArray), .slice B29 l28.length d29] 107, .own (Zd.slice 107 q107) l28 [.slice B29 l28.length d29], .box g5 [.int .i64 ((rd_T171 a0.f6 x30).f0), .int .i64 ((rd_T171 a0.f6 x30).f1), .slice B35_2 (rd_T171 a0.f6 x30).f2.length d35_2, .slice B35_3 (rd_T171 a0.f6 x30).f3.length d35_3] 171, .own (Zd.slice 107 q107) t204001.f2 [.slice B204002 t204001.f2.length d204002]] := HS
     have F := HS.boxes; simp only [boxFacts, and_true] at F
     refine hK.out _ _ ⟨[], HS.arr [some 0, some 1, some 2, none, some 4] (by decide)⟩ (fun HH => ?_)
     clear hK K
     refine norm_ (a' := ?_) ?_ ?_
     rotate_left
     · show Act.put _ (some 23) _ = _; simp only [Act.put, List.setIfInBounds_toArray, List.set_cons_zero, List.set_cons_succ, i64_w, i32_w]; rfl
     refine dr_one 7 HT rfl (by kernel_rfl) (by decide) (fun K hK => ?_)
     refine goes_ Try.func121 (by kernel_rfl) rfl #[.int .i64 ((rd_T171 a0.f6 x30).f1)] (by rfl) rfl rfl (by simp only [List.map_toArray, List.map_cons, List.map_nil]; rfl) ?_; refine (spec_IntItem.calls ht207001.out).mono ?_; rintro _ wt207001 ⟨v207002, rfl, HQ⟩; refine ⟨_, rfl, ?_⟩; replace HS := HS.call HQ; clear HQ; (try clear F); obtain ⟨B207002, d207002, rfl, m207002⟩ := HS.form 6 rfl
     replace HS : Hp noFP w _ [.box g1 [.string a0.f0, .int .i64 a0.f1, .int .i64 a0.f2, .int .i64 a0.f3, .int .i64 a0.f4, .int .i64 a0.f5, .slice (some ad35) a0.f6.length cp0, .string a0.f7] 49, .box g2 [.int .i64 0, .string (⟨#[]⟩ : ByteArray), .slice none 0 0] 107, .box g3 [.int .i64 48, .string (⟨#[]⟩ : ByteArray), .slice B29 l28.length d29] 107, .own (Zd.slice 107 q107) l28 [.slice B29 l28.length d29], .box g5 [.int .i64 ((rd_T171 a0.f6 x30).f0), .int .i64 ((rd_T171 a0.f6 x30).f1), .slice B35_2 (rd_T171 a0.f6 x30).f2.length d35_2, .slice B35_3 (rd_T171 a0.f6 x30).f3.length d35_3] 171, .own (Zd.slice 107 q107) t204001.f2 [.slice B204002 t204001.f2.length d204002], .own (Zd.slice 107 q107) t207001.f2 [.slice B207002 t207001.f2.length d207002]] := HS
     have F := HS.boxes; simp only [boxFacts, and_true] at F
     refine hK.out _ _ ⟨[], HS.arr [some 0, some 1, some 2, none, some 4] (by decide)⟩ (fun HH => ?_)
     clear hK K
     refine norm_ (a' := ?_) ?_ ?_
     rotate_left
     · show Act.put _ (some 26) _ = _; simp only [Act.put, List.setIfInBounds_toArray, List.set_cons_zero, List.set_cons_succ, i64_w, i32_w]; rfl
     refine dr_one 10 HT rfl (by kernel_rfl) (by decide) (fun K hK => ?_)
     refine goes_ Try.func122 (by kernel_rfl) rfl #[.slice B35_2 (rd_T171 a0.f6 x30).f2.length d35_2] (by rfl) rfl rfl (by simp only [List.map_toArray, List.map_cons, List.map_nil]; rfl) ?_; refine (spec_l14Texts.calls ht210001.out (HS.ro y35_2) m35_2).mono ?_; rintro _ wt210001 ⟨v210002, rfl, HQ⟩; refine ⟨_, rfl, ?_⟩; replace HS := HS.call HQ; clear HQ; (try clear F); obtain ⟨B210002, d210002, rfl, m210002⟩ := HS.form 7 rfl
     replace HS : Hp noFP w _ [.box g1 [.string a0.f0, .int .i64 a0.f1, .int .i64 a0.f2, .int .i64 a0.f3, .int .i64 a0.f4, .int .i64 a0.f5, .slice (some ad35) a0.f6.length cp0, .string a0.f7] 49, .box g2 [.int .i64 0, .string (⟨#[]⟩ : ByteArray), .slice none 0 0] 107, .box g3 [.int .i64 48, .string (⟨#[]⟩ : ByteArray), .slice B29 l28.length d29] 107, .own (Zd.slice 107 q107) l28 [.slice B29 l28.length d29], .box g5 [.int .i64 ((rd_T171 a0.f6 x30).f0), .int .i64 ((rd_T171 a0.f6 x30).f1), .slice B35_2 (rd_T171 a0.f6 x30).f2.length d35_2, .slice B35_3 (rd_T171 a0.f6 x30).f3.length d35_3] 171, .own (Zd.slice 107 q107) t204001.f2 [.slice B204002 t204001.f2.length d204002], .own (Zd.slice 107 q107) t207001.f2 [.slice B207002 t207001.f2.length d207002], .own (Zd.slice 107 q107) t210001.f2 [.slice B210002 t210001.f2.length d210002]] := HS
     have F := HS.boxes; simp only [boxFacts, and_true] at F
     refine hK.out _ _ ⟨[], HS.arr [some 0, some 1, some 2, none, some 4] (by decide)⟩ (fun HH => ?_)
     clear hK K
     refine norm_ (a' := ?_) ?_ ?_
     rotate_left
     · show Act.put _ (some 29) _ = _; simp only [Act.put, List.setIfInBounds_toArray, List.set_cons_zero, List.set_cons_succ, i64_w, i32_w]; rfl
     refine dr_one 13 HT rfl (by kernel_rfl) (by decide) (fun K hK => ?_)
     refine goes_ Try.func122 (by kernel_rfl) rfl #[.slice B35_3 (rd_T171 a0.f6 x30).f3.length d35_3] (by rfl) rfl rfl (by simp only [List.map_toArray, List.map_cons, List.map_nil]; rfl) ?_; refine (spec_l14Texts.calls ht213001.out (HS.ro y35_3) m35_3).mono ?_; rintro _ wt213001 ⟨v213002, rfl, HQ⟩; refine ⟨_, rfl, ?_⟩; replace HS := HS.call HQ; clear HQ; (try clear F); obtain ⟨B213002, d213002, rfl, m213002⟩ := HS.form 8 rfl
     replace HS : Hp noFP w _ [.box g1 [.string a0.f0, .int .i64 a0.f1, .int .i64 a0.f2, .int .i64 a0.f3, .int .i64 a0.f4, .int .i64 a0.f5, .slice (some ad35) a0.f6.length cp0, .string a0.f7] 49, .box g2 [.int .i64 0, .string (⟨#[]⟩ : ByteArray), .slice none 0 0] 107, .box g3 [.int .i64 48, .string (⟨#[]⟩ : ByteArray), .slice B29 l28.length d29] 107, .own (Zd.slice 107 q107) l28 [.slice B29 l28.length d29], .box g5 [.int .i64 ((rd_T171 a0.f6 x30).f0), .int .i64 ((rd_T171 a0.f6 x30).f1), .slice B35_2 (rd_T171 a0.f6 x30).f2.length d35_2, .slice B35_3 (rd_T171 a0.f6 x30).f3.length d35_3] 171, .own (Zd.slice 107 q107) t204001.f2 [.slice B204002 t204001.f2.length d204002], .own (Zd.slice 107 q107) t207001.f2 [.slice B207002 t207001.f2.length d207002], .own (Zd.slice 107 q107) t210001.f2 [.slice B210002 t210001.f2.length d210002], .own (Zd.slice 107 q107) t213001.f2 [.slice B213002 t213001.f2.length d213002]] := HS
     have F := HS.boxes; simp only [boxFacts, and_true] at F
     refine hK.out _ _ ⟨[], HS.arr [some 0, some 1, some 2, none, some 4] (by decide)⟩ (fun HH => ?_)
     clear hK K
     refine norm_ (a' := ?_) ?_ ?_
     rotate_left
     · show Act.put _ (some 32) _ = _; simp only [Act.put, List.setIfInBounds_toArray, List.set_cons_zero, List.set_cons_succ, i64_w, i32_w]; rfl
     refine dr_one 14 HT rfl (by kernel_rfl) (by decide) (fun K hK => ?_)
     refine if_wp (by rfl) ?_; refine wp_lit q107 [5, 6, 7, 8] ([t204001, t207001, t210001, t213001] : List S107) ([.int .i64 t204001.f0, .string t204001.f1, .slice B204002 t204001.f2.length d204002] ++ ([.int .i64 t207001.f0, .string t207001.f1, .slice B207002 t207001.f2.length d207002] ++ ([.int .i64 t210001.f0, .string t210001.f1, .slice B210002 t210001.f2.length d210002] ++ ([.int .i64 t213001.f0, .string t213001.f1, .slice B213002 t213001.f2.length d213002] ++ [])))) HS (by first | (go_simp; done) | (go_simp; rfl)) rfl rfl (Nat.le_of_ble_eq_true rfl) (MadeL.cons (js1 := [5]) (c := [.int .i64 t204001.f0, .string t204001.f1, .slice B204002 t204001.f2.length d204002]) rfl (fun S hd hh => q107_pack (x := t204001) hd (hh 5 (.own (Zd.slice 107 q107) t204001.f2 [.slice B204002 t204001.f2.length d204002]) rfl) (by decide)) (MadeL.cons (js1 := [6]) (c := [.int .i64 t207001.f0, .string t207001.f1, .slice B207002 t207001.f2.length d207002]) rfl (fun S hd hh => q107_pack (x := t207001) hd (hh 6 (.own (Zd.slice 107 q107) t207001.f2 [.slice B207002 t207001.f2.length d207002]) rfl) (by decide)) (MadeL.cons (js1 := [7]) (c := [.int .i64 t210001.f0, .string t210001.f1, .slice B210002 t210001.f2.length d210002]) rfl (fun S hd hh => q107_pack (x := t210001) hd (hh 7 (.own (Zd.slice 107 q107) t210001.f2 [.slice B210002 t210001.f2.length d210002]) rfl) (by decide)) (MadeL.cons (js1 := [8]) (c := [.int .i64 t213001.f0, .string t213001.f1, .slice B213002 t213001.f2.length d213002]) rfl (fun S hd hh => q107_pack (x := t213001) hd (hh 8 (.own (Zd.slice 107 q107) t213001.f2 [.slice B213002 t213001.f2.length d213002]) rfl) (by decide)) MadeL.nil (by decide)) (by decide)) (by decide)) (by decide)) ?_; clear HS; (try clear F); intro v214001 w214001 HS; obtain ⟨B214001, d214001, rfl, m214001⟩ := HS.formn 4 9 rfl rfl
     replace HS : Hp noFP w _ [.box g1 [.string a0.f0, .int .i64 a0.f1, .int .i64 a0.f2, .int .i64 a0.f3, .int .i64 a0.f4, .int .i64 a0.f5, .slice (some ad35) a0.f6.length cp0, .string a0.f7] 49, .box g2 [.int .i64 0, .string (⟨#[]⟩ : ByteArray), .slice none 0 0] 107, .box g3 [.int .i64 48, .string (⟨#[]⟩ : ByteArray), .slice B29 l28.length d29] 107, .own (Zd.slice 107 q107) l28 [.slice B29 l28.length d29], .box g5 [.int .i64 ((rd_T171 a0.f6 x30).f0), .int .i64 ((rd_T171 a0.f6 x30).f1), .slice B35_2 (rd_T171 a0.f6 x30).f2.length d35_2, .slice B35_3 (rd_T171 a0.f6 x30).f3.length d35_3] 171, .emp, .emp, .emp, .emp, .own (Zd.slice 107 q107) ([t204001, t207001, t210001, t213001] : List S107) [.slice B214001 4 d214001]] := HS
     have F := HS.boxes; simp only [boxFacts, and_true] at F
     refine hK.out _ _ ⟨[], HS.arr [some 0, some 1, some 2, none, some 4] (by decide)⟩ (fun HH => ?_)
     clear hK K
     refine norm_ (a' := ?_) ?_ ?_
     rotate_left
     · show Act.put _ (some 33) _ = _; simp only [Act.put, List.setIfInBounds_toArray, List.set_cons_zero, List.set_cons_succ, i64_w, i32_w]; rfl
     refine drq_of [(15, some 34)] ?_
     repeat (first | (refine drq_pure HT (v := ?_) (a' := ?_) rfl rfl (by kernel_rfl) (fun _ _ _ h => h) (.inl ⟨by rfl, ?_⟩) ?_ ?_; rotate_left; (intro w'; go_simp; with_reducible rfl); rotate_left; (simp only [Act.put, List.setIfInBounds_toArray, List.set_cons_zero, List.set_cons_succ, i64_w, i32_w]; rfl)))
     refine drq_end ?_
     refine dr_one 16 HT rfl (by kernel_rfl) (by decide) (fun K hK => ?_)
     refine if_wp (by rfl) ?_; refine wp_lit q107 [9] ([(⟨48, (⟨#[]⟩ : ByteArray), ([t204001, t207001, t210001, t213001] : List S107)⟩ : S107)] : List S107) ([.int .i64 48, .string (⟨#[]⟩ : ByteArray), .slice B214001 4 d214001] ++ []) HS (by first | (go_simp; done) | (go_simp; rfl)) rfl rfl (Nat.le_of_ble_eq_true rfl) (MadeL.cons (js1 := [9]) (c := [.int .i64 48, .string (⟨#[]⟩ : ByteArray), .slice B214001 4 d214001]) rfl (fun S hd hh => q107_pack (x := (⟨48, (⟨#[]⟩ : ByteArray), ([t204001, t207001, t210001, t213001] : List S107)⟩ : S107)) hd (hh 9 (.own (Zd.slice 107 q107) ([t204001, t207001, t210001, t213001] : List S107) [.slice B214001 4 d214001]) rfl) (by decide)) MadeL.nil (by decide)) ?_; clear HS; (try clear F); intro v216001 w216001 HS; obtain ⟨B216001, d216001, rfl, m216001⟩ := HS.formn 1 10 rfl rfl
     replace HS : Hp noFP w _ [.box g1 [.string a0.f0, .int .i64 a0.f1, .int .i64 a0.f2, .int .i64 a0.f3, .int .i64 a0.f4, .int .i64 a0.f5, .slice (some ad35) a0.f6.length cp0, .string a0.f7] 49, .box g2 [.int .i64 0, .string (⟨#[]⟩ : ByteArray), .slice none 0 0] 107, .box g3 [.int .i64 48, .string (⟨#[]⟩ : ByteArray), .slice B29 l28.length d29] 107, .own (Zd.slice 107 q107) l28 [.slice B29 l28.length d29], .box g5 [.int .i64 ((rd_T171 a0.f6 x30).f0), .int .i64 ((rd_T171 a0.f6 x30).f1), .slice B35_2 (rd_T171 a0.f6 x30).f2.length d35_2, .slice B35_3 (rd_T171 a0.f6 x30).f3.length d35_3] 171, .emp, .emp, .emp, .emp, .emp, .own (Zd.slice 107 q107) ([(⟨48, (⟨#[]⟩ : ByteArray), ([t204001, t207001, t210001, t213001] : List S107)⟩ : S107)] : List S107) [.slice B216001 1 d216001]] := HS
     have F := HS.boxes; simp only [boxFacts, and_true] at F
     refine hK.out _ _ ⟨[], HS.arr [some 0, some 1, some 2, none, some 4] (by decide)⟩ (fun HH => ?_)
     clear hK K
     refine norm_ (a' := ?_) ?_ ?_
     rotate_left
     · show Act.put _ (some 35) _ = _; simp only [Act.put, List.setIfInBounds_toArray, List.set_cons_zero, List.set_cons_succ, i64_w, i32_w]; rfl
     refine dr_one 17 HT rfl (by kernel_rfl) (by decide) (fun K hK => ?_)
     refine if_wp (by rfl) ?_; refine wp_append q107 3 10 HS rfl rfl (by decide) rfl rfl rfl Try.underlying105 info107 rfl (by decide) (by decide) (by have := of_eq_true c217001; first | omega | (simp only [List.length_cons, List.length_nil, List.length_append, Nat.zero_add] at this ⊢; omega)) ?_; clear HS; (try clear F); intro v217002 w217002 HS; rw [← e_y217002.out] at HS; obtain ⟨B217002, d217002, rfl, m217002⟩ := HS.form 11 rfl
     replace HS : Hp noFP w _ [.box g1 [.string a0.f0, .int .i64 a0.f1, .int .i64 a0.f2, .int .i64 a0.f3, .int .i64 a0.f4, .int .i64 a0.f5, .slice (some ad35) a0.f6.length cp0, .string a0.f7] 49, .box g2 [.int .i64 0, .string (⟨#[]⟩ : ByteArray), .slice none 0 0] 107, .box g3 [.int .i64 48, .string (⟨#[]⟩ : ByteArray), .slice B29 l28.length d29] 107, .emp, .box g5 [.int .i64 ((rd_T171 a0.f6 x30).f0), .int .i64 ((rd_T171 a0.f6 x30).f1), .slice B35_2 (rd_T171 a0.f6 x30).f2.length d35_2, .slice B35_3 (rd_T171 a0.f6 x30).f3.length d35_3] 171, .emp, .emp, .emp, .emp, .emp, .emp, .own (Zd.slice 107 q107) y217002 [.slice B217002 y217002.length d217002]] := HS
     have F := HS.boxes; simp only [boxFacts, and_true] at F
     refine hK.out _ _ ⟨[], HS.arr [some 0, some 1, some 2, none, some 4] (by decide)⟩ (fun HH => ?_)
     clear hK K
     refine norm_ (a' := ?_) ?_ ?_
     rotate_left
     · show Act.put _ (some 36) _ = _; simp only [Act.put, List.setIfInBounds_toArray, List.set_cons_zero, List.set_cons_succ, i64_w, i32_w]; rfl
     refine drq_of [(18, some 37)] ?_
     repeat (first | (refine drq_pure HT (v := ?_) (a' := ?_) rfl rfl (by kernel_rfl) (fun _ _ _ h => h) (.inl ⟨by rfl, ?_⟩) ?_ ?_; rotate_left; (intro w'; go_simp; with_reducible rfl); rotate_left; (simp only [Act.put, List.setIfInBounds_toArray, List.set_cons_zero, List.set_cons_succ, i64_w, i32_w]; rfl)))
     refine drq_end ?_
     refine dr_last 19 HT rfl (by kernel_rfl) (by decide) (fun K hK => ?_)
     refine if_wp (by rfl) ?_; refine wp_store 2 2 HS (seg := [.slice B217002 y217002.length d217002]) rfl rfl rfl rfl rfl rfl (by kernel_rfl) (by simp [wrt]) (by simp [Value.oneCell']) ?_; clear HS; (try clear F); intro w219001 HS
     replace HS : Hp noFP w _ [.box g1 [.string a0.f0, .int .i64 a0.f1, .int .i64 a0.f2, .int .i64 a0.f3, .int .i64 a0.f4, .int .i64 a0.f5, .slice (some ad35) a0.f6.length cp0, .string a0.f7] 49, .box g2 [.int .i64 0, .string (⟨#[]⟩ : ByteArray), .slice none 0 0] 107, .box g3 [.int .i64 48, .string (⟨#[]⟩ : ByteArray), .slice B217002 y217002.length d217002] 107, .emp, .box g5 [.int .i64 ((rd_T171 a0.f6 x30).f0), .int .i64 ((rd_T171 a0.f6 x30).f1), .slice B35_2 (rd_T171 a0.f6 x30).f2.length d35_2, .slice B35_3 (rd_T171 a0.f6 x30).f3.length d35_3] 171, .emp, .emp, .emp, .emp, .emp, .emp, .own (Zd.slice 107 q107) y217002 [.slice B217002 y217002.length d217002]] := HS
     have F := HS.boxes; simp only [boxFacts, and_true] at F
     refine hK.out _ _ ?_
     clear hK K
     refine done_ (done_of HT.out (by kernel_rfl)) ?_
     go_wp2
     go_roundg k27
     case measure => have := HKk27.out; omega
     case rel => exact ⟨_, _, _, rfl, H, ⟨by have := HKk27.out; omega⟩, HS.pick [0, 1, 2, 11] (by decide) (by rfl)⟩
   · replace H := zneg c32 H
     replace c32 := eq_false c32
     (try go_wp2)
     obtain ⟨t302001, ht302001, H⟩ := zbind H
     obtain ⟨t305001, ht305001, H⟩ := zbind H
     obtain ⟨t308001, ht308001, H⟩ := zbind H
     obtain ⟨t311001, ht311001, H⟩ := zbind H
     obtain ⟨t314001, ht314001, H⟩ := zbind H
     obtain ⟨t317001, ht317001, H⟩ := zbind H
     refine dr_start2 [.box g1 [.string a0.f0, .int .i64 a0.f1, .int .i64 a0.f2, .int .i64 a0.f3, .int .i64 a0.f4, .int .i64 a0.f5, .slice Ap0 a0.f6.length cp0, .string a0.f7] 49, .box g2 [.int .i64 0, .string (⟨#[]⟩ : ByteArray), .slice none 0 0] 107, .box g3 [.int .i64 48, .string (⟨#[]⟩ : ByteArray), .slice B29 l28.length d29] 107, .emp] [21] HS (HS.arr [some 0, some 1, some 2, none] (by decide)) #[false, false, false, false, false, false, false, false, false, false, false, false, false, false, false, false, false, false, false, false, false, false] (by kernel_rfl) rfl rfl spec_l15Item.tT7 (fun w44 HT HS HH => ?_)
     (try clear F)
     refine drq_of [(0, some 38), (1, some 39), (3, some 41), (4, some 42), (6, some 44), (7, some 45), (9, some 47), (10, some 48), (12, some 50), (13, some 51), (15, some 53), (16, some 54), (18, some 56)] ?_
     repeat (first | (refine drq_pure HT (v := ?_) (a' := ?_) rfl rfl (by kernel_rfl) (fun _ _ _ h => h) (.inl ⟨by rfl, ?_⟩) ?_ ?_; rotate_left; (intro w'; go_simp; with_reducible rfl); rotate_left; (simp only [Act.put, List.setIfInBounds_toArray, List.set_cons_zero, List.set_cons_succ, i64_w, i32_w]; rfl)) | (refine drq_take HT HH (v := ?_) (a' := ?_) rfl rfl (by kernel_rfl) (fun _ _ _ h => h) (.inl ⟨by rfl, ?_⟩) ?_ ?_; rotate_left; (rintro w' ⟨rs', HS'⟩; have F := HS'.boxes; simp only [boxFacts, List.cons_append, List.nil_append, and_true] at F; go_simp; with_reducible rfl); rotate_left; (simp only [Act.put, List.setIfInBounds_toArray, List.set_cons_zero, List.set_cons_succ, i64_w, i32_w]; rfl)))
     refine drq_end ?_
     refine dr_one 2 HT rfl (by kernel_rfl) (by decide) (fun K hK => ?_)
     refine goes_ Try.func71 (by kernel_rfl) rfl #[.string a0.f0] (by rfl) rfl rfl (by simp only [List.map_toArray, List.map_cons, List.map_nil]; rfl) ?_; refine (spec_l09Bytes.calls ht302001.out).mono ?_; rintro _ wt302001 ⟨v302002, rfl, HQ⟩; refine ⟨_, rfl, ?_⟩; replace HS := HS.call HQ; clear HQ; (try clear F); obtain ⟨B302002, d302002, rfl, m302002⟩ := HS.form 4 rfl
     replace HS : Hp noFP w _ [.box g1 [.string a0.f0, .int .i64 a0.f1, .int .i64 a0.f2, .int .i64 a0.f3, .int .i64 a0.f4, .int .i64 a0.f5, .slice Ap0 a0.f6.length cp0, .string a0.f7] 49, .box g2 [.int .i64 0, .string (⟨#[]⟩ : ByteArray), .slice none 0 0] 107, .box g3 [.int .i64 48, .string (⟨#[]⟩ : ByteArray), .slice B29 l28.length d29] 107, .own (Zd.slice 107 q107) l28 [.slice B29 l28.length d29], .own (Zd.slice 107 q107) t302001.f2 [.slice B302002 t302001.f2.length d302002]] := HS
     have F := HS.boxes; simp only [boxFacts, and_true] at F
     refine hK.out _ _ ⟨[], HS.arr [some 0, some 1, some 2, none] (by decide)⟩ (fun HH => ?_)
     clear hK K
     refine norm_ (a' := ?_) ?_ ?_
     rotate_left
     · show Act.put _ (some 40) _ = _; simp only [Act.put, List.setIfInBounds_toArray, List.set_cons_zero, List.set_cons_succ, i64_w, i32_w]; rfl
     refine dr_one 5 HT rfl (by kernel_rfl) (by decide) (fun K hK => ?_)
     refine goes_ Try.func121 (by kernel_rfl) rfl #[.int .i64 a0.f1] (by rfl) rfl rfl (by simp only [List.map_toArray, List.map_cons, List.map_nil]; rfl) ?_; refine (spec_IntItem.calls ht305001.out).mono ?_; rintro _ wt305001 ⟨v305002, rfl, HQ⟩; refine ⟨_, rfl, ?_⟩; replace HS := HS.call HQ; clear HQ; (try clear F); obtain ⟨B305002, d305002, rfl, m305002⟩ := HS.form 5 rfl
     replace HS : Hp noFP w _ [.box g1 [.string a0.f0, .int .i64 a0.f1, .int .i64 a0.f2, .int .i64 a0.f3, .int .i64 a0.f4, .int .i64 a0.f5, .slice Ap0 a0.f6.length cp0, .string a0.f7] 49, .box g2 [.int .i64 0, .string (⟨#[]⟩ : ByteArray), .slice none 0 0] 107, .box g3 [.int .i64 48, .string (⟨#[]⟩ : ByteArray), .slice B29 l28.length d29] 107, .own (Zd.slice 107 q107) l28 [.slice B29 l28.length d29], .own (Zd.slice 107 q107) t302001.f2 [.slice B302002 t302001.f2.length d302002], .own (Zd.slice 107 q107) t305001.f2 [.slice B305002 t305001.f2.length d305002]] := HS
     have F := HS.boxes; simp only [boxFacts, and_true] at F
     refine hK.out _ _ ⟨[], HS.arr [some 0, some 1, some 2, none] (by decide)⟩ (fun HH => ?_)
     clear hK K
     refine norm_ (a' := ?_) ?_ ?_
     rotate_left
     · show Act.put _ (some 43) _ = _; simp only [Act.put, List.setIfInBounds_toArray, List.set_cons_zero, List.set_cons_succ, i64_w, i32_w]; rfl
     refine dr_one 8 HT rfl (by kernel_rfl) (by decide) (fun K hK => ?_)
     refine goes_ Try.func121 (by kernel_rfl) rfl #[.int .i64 a0.f2] (by rfl) rfl rfl (by simp only [List.map_toArray, List.map_cons, List.map_nil]; rfl) ?_; refine (spec_IntItem.calls ht308001.out).mono ?_; rintro _ wt308001 ⟨v308002, rfl, HQ⟩; refine ⟨_, rfl, ?_⟩; replace HS := HS.call HQ; clear HQ; (try clear F); obtain ⟨B308002, d308002, rfl, m308002⟩ := HS.form 6 rfl
     replace HS : Hp noFP w _ [.box g1 [.string a0.f0, .int .i64 a0.f1, .int .i64 a0.f2, .int .i64 a0.f3, .int .i64 a0.f4, .int .i64 a0.f5, .slice Ap0 a0.f6.length cp0, .string a0.f7] 49, .box g2 [.int .i64 0, .string (⟨#[]⟩ : ByteArray), .slice none 0 0] 107, .box g3 [.int .i64 48, .string (⟨#[]⟩ : ByteArray), .slice B29 l28.length d29] 107, .own (Zd.slice 107 q107) l28 [.slice B29 l28.length d29], .own (Zd.slice 107 q107) t302001.f2 [.slice B302002 t302001.f2.length d302002], .own (Zd.slice 107 q107) t305001.f2 [.slice B305002 t305001.f2.length d305002], .own (Zd.slice 107 q107) t308001.f2 [.slice B308002 t308001.f2.length d308002]] := HS
     have F := HS.boxes; simp only [boxFacts, and_true] at F
     refine hK.out _ _ ⟨[], HS.arr [some 0, some 1, some 2, none] (by decide)⟩ (fun HH => ?_)
     clear hK K
     refine norm_ (a' := ?_) ?_ ?_
     rotate_left
     · show Act.put _ (some 46) _ = _; simp only [Act.put, List.setIfInBounds_toArray, List.set_cons_zero, List.set_cons_succ, i64_w, i32_w]; rfl
     refine dr_one 11 HT rfl (by kernel_rfl) (by decide) (fun K hK => ?_)
     refine goes_ Try.func121 (by kernel_rfl) rfl #[.int .i64 a0.f3] (by rfl) rfl rfl (by simp only [List.map_toArray, List.map_cons, List.map_nil]; rfl) ?_; refine (spec_IntItem.calls ht311001.out).mono ?_; rintro _ wt311001 ⟨v311002, rfl, HQ⟩; refine ⟨_, rfl, ?_⟩; replace HS := HS.call HQ; clear HQ; (try clear F); obtain ⟨B311002, d311002, rfl, m311002⟩ := HS.form 7 rfl
     replace HS : Hp noFP w _ [.box g1 [.string a0.f0, .int .i64 a0.f1, .int .i64 a0.f2, .int .i64 a0.f3, .int .i64 a0.f4, .int .i64 a0.f5, .slice Ap0 a0.f6.length cp0, .string a0.f7] 49, .box g2 [.int .i64 0, .string (⟨#[]⟩ : ByteArray), .slice none 0 0] 107, .box g3 [.int .i64 48, .string (⟨#[]⟩ : ByteArray), .slice B29 l28.length d29] 107, .own (Zd.slice 107 q107) l28 [.slice B29 l28.length d29], .own (Zd.slice 107 q107) t302001.f2 [.slice B302002 t302001.f2.length d302002], .own (Zd.slice 107 q107) t305001.f2 [.slice B305002 t305001.f2.length d305002], .own (Zd.slice 107 q107) t308001.f2 [.slice B308002 t308001.f2.length d308002], .own (Zd.slice 107 q107) t311001.f2 [.slice B311002 t311001.f2.length d311002]] := HS
     have F := HS.boxes; simp only [boxFacts, and_true] at F
     refine hK.out _ _ ⟨[], HS.arr [some 0, some 1, some 2, none] (by decide)⟩ (fun HH => ?_)
     clear hK K
     refine norm_ (a' := ?_) ?_ ?_
     rotate_left
     · show Act.put _ (some 49) _ = _; simp only [Act.put, List.setIfInBounds_toArray, List.set_cons_zero, List.set_cons_succ, i64_w, i32_w]; rfl
     refine dr_one 14 HT rfl (by kernel_rfl) (by decide) (fun K hK => ?_)
     refine goes_ Try.func121 (by kernel_rfl) rfl #[.int .i64 a0.f4] (by rfl) rfl rfl (by simp only [List.map_toArray, List.map_cons, List.map_nil]; rfl) ?_; refine (spec_IntItem.calls ht314001.out).mono ?_; rintro _ wt314001 ⟨v314002, rfl, HQ⟩; refine ⟨_, rfl, ?_⟩; replace HS := HS.call HQ; clear HQ; (try clear F); obtain ⟨B314002, d314002, rfl, m314002⟩ := HS.form 8 rfl
     replace HS : Hp noFP w _ [.box g1 [.string a0.f0, .int .i64 a0.f1, .int .i64 a0.f2, .int .i64 a0.f3, .int .i64 a0.f4, .int .i64 a0.f5, .slice Ap0 a0.f6.length cp0, .string a0.f7] 49, .box g2 [.int .i64 0, .string (⟨#[]⟩ : ByteArray), .slice none 0 0] 107, .box g3 [.int .i64 48, .string (⟨#[]⟩ : ByteArray), .slice B29 l28.length d29] 107, .own (Zd.slice 107 q107) l28 [.slice B29 l28.length d29], .own (Zd.slice 107 q107) t302001.f2 [.slice B302002 t302001.f2.length d302002], .own (Zd.slice 107 q107) t305001.f2 [.slice B305002 t305001.f2.length d305002], .own (Zd.slice 107 q107) t308001.f2 [.slice B308002 t308001.f2.length d308002], .own (Zd.slice 107 q107) t311001.f2 [.slice B311002 t311001.f2.length d311002], .own (Zd.slice 107 q107) t314001.f2 [.slice B314002 t314001.f2.length d314002]] := HS
     have F := HS.boxes; simp only [boxFacts, and_true] at F
     refine hK.out _ _ ⟨[], HS.arr [some 0, some 1, some 2, none] (by decide)⟩ (fun HH => ?_)
     clear hK K
     refine norm_ (a' := ?_) ?_ ?_
     rotate_left
     · show Act.put _ (some 52) _ = _; simp only [Act.put, List.setIfInBounds_toArray, List.set_cons_zero, List.set_cons_succ, i64_w, i32_w]; rfl
     refine dr_one 17 HT rfl (by kernel_rfl) (by decide) (fun K hK => ?_)
     refine goes_ Try.func121 (by kernel_rfl) rfl #[.int .i64 a0.f5] (by rfl) rfl rfl (by simp only [List.map_toArray, List.map_cons, List.map_nil]; rfl) ?_; refine (spec_IntItem.calls ht317001.out).mono ?_; rintro _ wt317001 ⟨v317002, rfl, HQ⟩; refine ⟨_, rfl, ?_⟩; replace HS := HS.call HQ; clear HQ; (try clear F); obtain ⟨B317002, d317002, rfl, m317002⟩ := HS.form 9 rfl
     replace HS : Hp noFP w _ [.box g1 [.string a0.f0, .int .i64 a0.f1, .int .i64 a0.f2, .int .i64 a0.f3, .int .i64 a0.f4, .int .i64 a0.f5, .slice Ap0 a0.f6.length cp0, .string a0.f7] 49, .box g2 [.int .i64 0, .string (⟨#[]⟩ : ByteArray), .slice none 0 0] 107, .box g3 [.int .i64 48, .string (⟨#[]⟩ : ByteArray), .slice B29 l28.length d29] 107, .own (Zd.slice 107 q107) l28 [.slice B29 l28.length d29], .own (Zd.slice 107 q107) t302001.f2 [.slice B302002 t302001.f2.length d302002], .own (Zd.slice 107 q107) t305001.f2 [.slice B305002 t305001.f2.length d305002], .own (Zd.slice 107 q107) t308001.f2 [.slice B308002 t308001.f2.length d308002], .own (Zd.slice 107 q107) t311001.f2 [.slice B311002 t311001.f2.length d311002], .own (Zd.slice 107 q107) t314001.f2 [.slice B314002 t314001.f2.length d314002], .own (Zd.slice 107 q107) t317001.f2 [.slice B317002 t317001.f2.length d317002]] := HS
     have F := HS.boxes; simp only [boxFacts, and_true] at F
     refine hK.out _ _ ⟨[], HS.arr [some 0, some 1, some 2, none] (by decide)⟩ (fun HH => ?_)
     clear hK K
     refine norm_ (a' := ?_) ?_ ?_
     rotate_left
     · show Act.put _ (some 55) _ = _; simp only [Act.put, List.setIfInBounds_toArray, List.set_cons_zero, List.set_cons_succ, i64_w, i32_w]; rfl
     refine dr_one 19 HT rfl (by kernel_rfl) (by decide) (fun K hK => ?_)
     refine if_wp (by rfl) ?_; refine wp_lit q107 [4, 5, 6, 7, 8, 9, 3] ([t302001, t305001, t308001, t311001, t314001, t317001, (⟨48, (⟨#[]⟩ : ByteArray), l28⟩ : S107)] : List S107) ([.int .i64 t302001.f0, .string t302001.f1, .slice B302002 t302001.f2.length d302002] ++ ([.int .i64 t305001.f0, .string t305001.f1, .slice B305002 t305001.f2.length d305002] ++ ([.int .i64 t308001.f0, .string t308001.f1, .slice B308002 t308001.f2.length d308002] ++ ([.int .i64 t311001.f0, .string t311001.f1, .slice B311002 t311001.f2.length d311002] ++ ([.int .i64 t314001.f0, .string t314001.f1, .slice B314002 t314001.f2.length d314002] ++ ([.int .i64 t317001.f0, .string t317001.f1, .slice B317002 t317001.f2.length d317002] ++ ([.int .i64 48, .string (⟨#[]⟩ : ByteArray), .slice B29 l28.length d29] ++ []))))))) HS (by first | (go_simp; done) | (go_simp; rfl)) rfl rfl (Nat.le_of_ble_eq_true rfl) (MadeL.cons (js1 := [4]) (c := [.int .i64 t302001.f0, .string t302001.f1, .slice B302002 t302001.f2.length d302002]) rfl (fun S hd hh => q107_pack (x := t302001) hd (hh 4 (.own (Zd.slice 107 q107) t302001.f2 [.slice B302002 t302001.f2.length d302002]) rfl) (by decide)) (MadeL.cons (js1 := [5]) (c := [.int .i64 t305001.f0, .string t305001.f1, .slice B305002 t305001.f2.length d305002]) rfl (fun S hd hh => q107_pack (x := t305001) hd (hh 5 (.own (Zd.slice 107 q107) t305001.f2 [.slice B305002 t305001.f2.length d305002]) rfl) (by decide)) (MadeL.cons (js1 := [6]) (c := [.int .i64 t308001.f0, .string t308001.f1, .slice B308002 t308001.f2.length d308002]) rfl (fun S hd hh => q107_pack (x := t308001) hd (hh 6 (.own (Zd.slice 107 q107) t308001.f2 [.slice B308002 t308001.f2.length d308002]) rfl) (by decide)) (MadeL.cons (js1 := [7]) (c := [.int .i64 t311001.f0, .string t311001.f1, .slice B311002 t311001.f2.length d311002]) rfl (fun S hd hh => q107_pack (x := t311001) hd (hh 7 (.own (Zd.slice 107 q107) t311001.f2 [.slice B311002 t311001.f2.length d311002]) rfl) (by decide)) (MadeL.cons (js1 := [8]) (c := [.int .i64 t314001.f0, .string t314001.f1, .slice B314002 t314001.f2.length d314002]) rfl (fun S hd hh => q107_pack (x := t314001) hd (hh 8 (.own (Zd.slice 107 q107) t314001.f2 [.slice B314002 t314001.f2.length d314002]) rfl) (by decide)) (MadeL.cons (js1 := [9]) (c := [.int .i64 t317001.f0, .string t317001.f1, .slice B317002 t317001.f2.length d317002]) rfl (fun S hd hh => q107_pack (x := t317001) hd (hh 9 (.own (Zd.slice 107 q107) t317001.f2 [.slice B317002 t317001.f2.length d317002]) rfl) (by decide)) (MadeL.cons (js1 := [3]) (c := [.int .i64 48, .string (⟨#[]⟩ : ByteArray), .slice B29 l28.length d29]) rfl (fun S hd hh => q107_pack (x := (⟨48, (⟨#[]⟩ : ByteArray), l28⟩ : S107)) hd (hh 3 (.own (Zd.slice 107 q107) l28 [.slice B29 l28.length d29]) rfl) (by decide)) MadeL.nil (by decide)) (by decide)) (by decide)) (by decide)) (by decide)) (by decide)) (by decide)) ?_; clear HS; (try clear F); intro v319001 w319001 HS; obtain ⟨B319001, d319001, rfl, m319001⟩ := HS.formn 7 10 rfl rfl
     replace HS : Hp noFP w _ [.box g1 [.string a0.f0, .int .i64 a0.f1, .int .i64 a0.f2, .int .i64 a0.f3, .int .i64 a0.f4, .int .i64 a0.f5, .slice Ap0 a0.f6.length cp0, .string a0.f7] 49, .box g2 [.int .i64 0, .string (⟨#[]⟩ : ByteArray), .slice none 0 0] 107, .box g3 [.int .i64 48, .string (⟨#[]⟩ : ByteArray), .slice B29 l28.length d29] 107, .emp, .emp, .emp, .emp, .emp, .emp, .emp, .own (Zd.slice 107 q107) ([t302001, t305001, t308001, t311001, t314001, t317001, (⟨48, (⟨#[]⟩ : ByteArray), l28⟩ : S107)] : List S107) [.slice B319001 7 d319001]] := HS
     have F := HS.boxes; simp only [boxFacts, and_true] at F
     refine hK.out _ _ ⟨[], HS.arr [some 0, some 1, some 2, none] (by decide)⟩ (fun HH => ?_)
     clear hK K
     refine norm_ (a' := ?_) ?_ ?_
     rotate_left
     · show Act.put _ (some 57) _ = _; simp only [Act.put, List.setIfInBounds_toArray, List.set_cons_zero, List.set_cons_succ, i64_w, i32_w]; rfl
     refine drq_of [(20, some 58)] ?_
     repeat (first | (refine drq_pure HT (v := ?_) (a' := ?_) rfl rfl (by kernel_rfl) (fun _ _ _ h => h) (.inl ⟨by rfl, ?_⟩) ?_ ?_; rotate_left; (intro w'; go_simp; with_reducible rfl); rotate_left; (simp only [Act.put, List.setIfInBounds_toArray, List.set_cons_zero, List.set_cons_succ, i64_w, i32_w]; rfl)))
     refine drq_end ?_
     refine dr_last 21 HT rfl (by kernel_rfl) (by decide) (fun K hK => ?_)
     refine if_wp (by rfl) ?_; refine wp_store 1 0 HS (seg := [.int .i64 48, .string (⟨#[]⟩ : ByteArray), .slice B319001 7 d319001]) rfl rfl rfl rfl rfl rfl (by kernel_rfl) (by simp [wrt]) (by simp [Value.oneCell']) ?_; clear HS; (try clear F); intro w321001 HS
     replace HS : Hp noFP w _ [.box g1 [.string a0.f0, .int .i64 a0.f1, .int .i64 a0.f2, .int .i64 a0.f3, .int .i64 a0.f4, .int .i64 a0.f5, .slice Ap0 a0.f6.length cp0, .string a0.f7] 49, .box g2 [.int .i64 48, .string (⟨#[]⟩ : ByteArray), .slice B319001 7 d319001] 107, .box g3 [.int .i64 48, .string (⟨#[]⟩ : ByteArray), .slice B29 l28.length d29] 107, .emp, .emp, .emp, .emp, .emp, .emp, .emp, .own (Zd.slice 107 q107) ([t302001, t305001, t308001, t311001, t314001, t317001, (⟨48, (⟨#[]⟩ : ByteArray), l28⟩ : S107)] : List S107) [.slice B319001 7 d319001]] := HS
     have F := HS.boxes; simp only [boxFacts, and_true] at F
     refine hK.out _ _ ?_
     clear hK K
     refine done_ (done_of HT.out (by kernel_rfl)) ?_
     obtain rfl := zsome H
     go_wp2
     exact bodyPost_ret (results_single rfl (.cell _ _ _ _ _ rfl (HS.boxAt (i := 1) rfl) Try.underlying107 rfl (by kernel_rfl) .nil)) rfl ⟨_, rfl, HS.pick [10] (by decide) (by rfl)⟩
/-! ### spec_l15Texts: function 131 -/
def spec_l15Texts.l0 : Nat → Int → (List ByteArray) → Int → Option (Bool)
  | 0, _, _, _ => none
  | k + 1, x4, a0, a1 => (if x4 < (a0.length : Int) then (if 0 ≤ x4 then (if x4 < (a0.length : Int) then (if 400 < ((rdOf ByteArray.empty a0 x4).size : Int) then (some false) else (spec_l15Texts.l0 k (wrap64 (x4 + 1)) a0 a1)) else none) else none) else (some (decide ((a0.length : Int) ≤ a1))))
def spec_l15Texts.f (k : Nat) (a0 : (List ByteArray)) (a1 : Int) : Option (Bool) := (spec_l15Texts.l0 k 0 a0 a1)
set_option maxHeartbeats 16000000 in
theorem spec_l15Texts.calls {k : Nat} {a0 : (List ByteArray)} {a1 : Int} {Ap0 : Option Addr} {np0 cp0 : Nat} {r : Bool} {w : World} (h : spec_l15Texts.f k a0 a1 = some r) (gp0 : Kd.string.C w Ap0 np0 a0) (lp0 : np0 ≤ cp0) :
    Calls Try.prog 131 #[.slice Ap0 np0 cp0, .int .i64 a1] w (fun e w' => e = .returned (.bool r) ∧ Hp noFP w w' []) := by
 obtain rfl := C_len gp0
 have HS := Hp.start w
 have H := Aside0.mk h
 clear h
 unfold spec_l15Texts.f at H
 go_enter Try.func131, Try.ntmps131
 go_wp2
 go_loopg [5] k (fun kq v_5 w' => ∃ (x4 : Int), v_5 = .int .i64 x4 ∧ Aside0 (spec_l15Texts.l0 kq x4 a0 a1 = some r) ∧ Aside0 (kq ≤ k) ∧ Hp noFP w w' [])
 case atStart => exact ⟨_, rfl, H, ⟨Nat.le_refl _⟩, HS⟩
 case round =>
  clear HS H; (try clear F)
  obtain ⟨x4, rfl, H, HKk3, HS⟩ := hrel
  cases gk with
  | zero => exact absurd H.out (by simp [spec_l15Texts.l0])
  | succ k3 =>
   simp only [spec_l15Texts.l0] at H
   by_cases c6 : x4 < (a0.length : Int)
   · replace H := zpos c6 H
     replace c6 := eq_true c6
     by_cases c7 : 0 ≤ x4
     case neg => exact zno c7 H
     replace H := zpos c7 H
     replace c7 := eq_true c7
     by_cases c8 : x4 < (a0.length : Int)
     case neg => exact zno c8 H
     replace H := zpos c8 H
     replace c8 := eq_true c8
     obtain ⟨ad9, rfl, e9_0⟩ := Kd.at_string gp0 x4 (of_eq_true c7) (of_eq_true c8)
     have e9_0_9 := HS.keepc e9_0
     by_cases c10 : 400 < ((rdOf ByteArray.empty a0 x4).size : Int)
     · replace H := zpos c10 H
       replace c10 := eq_true c10
       obtain rfl := zsome H
       go_wp2
       go_ret
       exact ⟨rfl, HS.pick [] (by decide) (by rfl)⟩
     · replace H := zneg c10 H
       replace c10 := eq_false c10
       go_wp2
       go_roundg k3
       case measure => have := HKk3.out; omega
       case rel => exact ⟨_, rfl, H, ⟨by have := HKk3.out; omega⟩, HS.pick [] (by decide) (by rfl)⟩
   · replace H := zneg c6 H
     replace c6 := eq_false c6
     obtain rfl := zsome H
     go_wp2
     go_ret
     exact ⟨rfl, HS.pick [] (by decide) (by rfl)⟩
/-! ### spec_ReplyOk: function 70 -/
def spec_ReplyOk.l0 : Nat → Int → S49 → Option (Bool)
  | 0, _, _ => none
  | k + 1, x6, a0 => (if x6 < (a0.f6.length : Int) then (if 0 ≤ x6 then (if x6 < (a0.f6.length : Int) then ((spec_l01In.f ((rd_T171 a0.f6 x6).f0) 0 2).bind fun t16 => (if t16 = true then ((spec_l01In.f ((rd_T171 a0.f6 x6).f1) 0 12).bind fun t19 => (if t19 = true then ((spec_l15Texts.f k ((rd_T171 a0.f6 x6).f2) 5).bind fun t22 => (if t22 = true then ((spec_l15Texts.f k ((rd_T171 a0.f6 x6).f3) 8).bind fun t25 => (if t25 = true then (spec_ReplyOk.l0 k (wrap64 (x6 + 1)) a0) else (some false))) else (some false))) else (some false))) else (some false))) else none) else none) else (if (a0.f0.size : Int) = 32 then ((spec_l01In.f a0.f1 0 1000000000).bind fun t29 => (if t29 = true then ((spec_l01In.f a0.f2 0 19999).bind fun t32 => (if t32 = true then ((spec_l01In.f a0.f3 0 19999).bind fun t35 => (if t35 = true then ((spec_l01In.f a0.f4 0 99).bind fun t38 => (if t38 = true then ((spec_l01In.f a0.f5 0 2).bind fun t41 => (if t41 = true then (if (a0.f6.length : Int) ≤ 3 then (some ((a0.f7.size : Int) == 15)) else (some false)) else (some false))) else (some false))) else (some false))) else (some false))) else (some false))) else (some false)))
def spec_ReplyOk.f (k : Nat) (a0 : S49) : Option (Bool) := (spec_ReplyOk.l0 k 0 a0)
set_option maxHeartbeats 16000000 in
theorem spec_ReplyOk.calls {k : Nat} {a0 : S49} {Ap0 : Option Addr} {np0 cp0 : Nat} {r : Bool} {w : World} (h : spec_ReplyOk.f k a0 = some r) (gp0 : k171.C w Ap0 np0 a0.f6) (lp0 : np0 ≤ cp0) :
    Calls Try.prog 70 #[.agg #[.string a0.f0, .int .i64 a0.f1, .int .i64 a0.f2, .int .i64 a0.f3, .int .i64 a0.f4, .int .i64 a0.f5, .slice Ap0 np0 cp0, .string a0.f7]] w (fun e w' => e = .returned (.bool r) ∧ Hp noFP w w' []) := by
 obtain rfl := C_len gp0
 have HS := Hp.start w
 have H := Aside0.mk h
 clear h
 unfold spec_ReplyOk.f at H
 go_enter Try.func70, Try.ntmps70
 go_wp2_with (first | ((with_reducible refine gate_dst (N := 1) rfl ?_); refine ev_box rfl HS (by first | (go_simp; done) | (go_simp; rfl)) rfl ?_; clear HS; (try clear F); intro g1 w1 HS; replace HS : Hp noFP w _ [.box g1 [.string a0.f0, .int .i64 a0.f1, .int .i64 a0.f2, .int .i64 a0.f3, .int .i64 a0.f4, .int .i64 a0.f5, .slice Ap0 a0.f6.length cp0, .string a0.f7] 49] := HS; have F := HS.boxes; simp only [boxFacts, and_true] at F))
 go_loopg [3] k (fun kq v_3 w' => ∃ (x6 : Int), v_3 = .int .i64 x6 ∧ Aside0 (spec_ReplyOk.l0 kq x6 a0 = some r) ∧ Aside0 (kq ≤ k) ∧ Hp noFP w w' [.box g1 [.string a0.f0, .int .i64 a0.f1, .int .i64 a0.f2, .int .i64 a0.f3, .int .i64 a0.f4, .int .i64 a0.f5, .slice Ap0 a0.f6.length cp0, .string a0.f7] 49])
 case atStart => exact ⟨_, rfl, H, ⟨Nat.le_refl _⟩, HS⟩
 case round =>
  clear HS H; (try clear F)
  obtain ⟨x6, rfl, H, HKk5, HS⟩ := hrel
  have F := HS.boxes; simp only [boxFacts, and_true] at F
  cases gk with
  | zero => exact absurd H.out (by simp [spec_ReplyOk.l0])
  | succ k5 =>
   simp only [spec_ReplyOk.l0] at H
   by_cases c8 : x6 < (a0.f6.length : Int)
   · replace H := zpos c8 H
     replace c8 := eq_true c8
     by_cases c9 : 0 ≤ x6
     case neg => exact zno c9 H
     replace H := zpos c9 H
     replace c9 := eq_true c9
     by_cases c10 : x6 < (a0.f6.length : Int)
     case neg => exact zno c10 H
     replace H := zpos c10 H
     replace c10 := eq_true c10
     obtain ⟨ad11, B11_2, d11_2, B11_3, d11_3, rfl, e11_0, e11_1, e11_2, e11_3, m11_2, y11_2, m11_3, y11_3⟩ := at_T171 gp0 x6 (of_eq_true c9) (of_eq_true c10)
     have e11_0_11 := HS.keepc e11_0
     have e11_1_11 := HS.keepc e11_1
     have e11_2_11 := HS.keepc e11_2
     have e11_3_11 := HS.keepc e11_3
     obtain ⟨t16, ht16, H⟩ := zbind H
     by_cases c18 : t16 = true
     · replace H := zpos c18 H
       obtain ⟨t19, ht19, H⟩ := zbind H
       by_cases c21 : t19 = true
       · replace H := zpos c21 H
         obtain ⟨t22, ht22, H⟩ := zbind H
         by_cases c24 : t22 = true
         · replace H := zpos c24 H
           obtain ⟨t25, ht25, H⟩ := zbind H
           go_upto_if 38 with (first | ((with_reducible refine gate_dst (N := 4) rfl ?_); refine ev_box rfl HS (by first | (go_simp; done) | (go_simp; rfl)) rfl ?_; clear HS; (try clear F); intro g4 w4 HS; replace HS : Hp noFP w _ [.box g1 [.string a0.f0, .int .i64 a0.f1, .int .i64 a0.f2, .int .i64 a0.f3, .int .i64 a0.f4, .int .i64 a0.f5, .slice (some ad11) a0.f6.length cp0, .string a0.f7] 49, .box g4 [.int .i64 0, .int .i64 0, .slice none 0 0, .slice none 0 0] 171] := HS; have F := HS.boxes; simp only [boxFacts, and_true] at F) | ((with_reducible refine gate_store (p := 4) rfl ?_); refine ev_store rfl 1 0 HS (seg := [.int .i64 ((rd_T171 a0.f6 x6).f0), .int .i64 ((rd_T171 a0.f6 x6).f1), .slice B11_2 (rd_T171 a0.f6 x6).f2.length d11_2, .slice B11_3 (rd_T171 a0.f6 x6).f3.length d11_3]) rfl rfl rfl rfl rfl rfl (by kernel_rfl) (by simp [wrt]) (by simp [Value.oneCell']) ?_; clear HS; (try clear F); intro w14 HS; replace HS : Hp noFP w _ [.box g1 [.string a0.f0, .int .i64 a0.f1, .int .i64 a0.f2, .int .i64 a0.f3, .int .i64 a0.f4, .int .i64 a0.f5, .slice (some ad11) a0.f6.length cp0, .string a0.f7] 49, .box g4 [.int .i64 ((rd_T171 a0.f6 x6).f0), .int .i64 ((rd_T171 a0.f6 x6).f1), .slice B11_2 (rd_T171 a0.f6 x6).f2.length d11_2, .slice B11_3 (rd_T171 a0.f6 x6).f3.length d11_3] 171] := HS; have F := HS.boxes; simp only [boxFacts, and_true] at F) | ((with_reducible refine gate_dst (N := 19) rfl ?_); refine ev_call rfl Try.func101 (by kernel_rfl) rfl #[.int .i64 ((rd_T171 a0.f6 x6).f0), .int .i64 0, .int .i64 2] rfl (by simp only [List.map_toArray, List.map_cons, List.map_nil]; rfl) ?_; refine (spec_l01In.calls ht16.out).mono ?_; rintro _ wt16 ⟨rfl, HQ⟩; refine ⟨_, rfl, ?_⟩; replace HS := HS.call HQ; clear HQ; (try clear F); replace HS : Hp noFP w _ [.box g1 [.string a0.f0, .int .i64 a0.f1, .int .i64 a0.f2, .int .i64 a0.f3, .int .i64 a0.f4, .int .i64 a0.f5, .slice (some ad11) a0.f6.length cp0, .string a0.f7] 49, .box g4 [.int .i64 ((rd_T171 a0.f6 x6).f0), .int .i64 ((rd_T171 a0.f6 x6).f1), .slice B11_2 (rd_T171 a0.f6 x6).f2.length d11_2, .slice B11_3 (rd_T171 a0.f6 x6).f3.length d11_3] 171] := HS; have F := HS.boxes; simp only [boxFacts, and_true] at F; (try simp only [c18])) | ((with_reducible refine gate_dst (N := 24) rfl ?_); refine gate_guard (by rfl) ?_; refine ev_call rfl Try.func101 (by kernel_rfl) rfl #[.int .i64 ((rd_T171 a0.f6 x6).f1), .int .i64 0, .int .i64 12] rfl (by simp only [List.map_toArray, List.map_cons, List.map_nil]; rfl) ?_; refine (spec_l01In.calls ht19.out).mono ?_; rintro _ wt19 ⟨rfl, HQ⟩; refine ⟨_, rfl, ?_⟩; replace HS := HS.call HQ; clear HQ; (try clear F); replace HS : Hp noFP w _ [.box g1 [.string a0.f0, .int .i64 a0.f1, .int .i64 a0.f2, .int .i64 a0.f3, .int .i64 a0.f4, .int .i64 a0.f5, .slice (some ad11) a0.f6.length cp0, .string a0.f7] 49, .box g4 [.int .i64 ((rd_T171 a0.f6 x6).f0), .int .i64 ((rd_T171 a0.f6 x6).f1), .slice B11_2 (rd_T171 a0.f6 x6).f2.length d11_2, .slice B11_3 (rd_T171 a0.f6 x6).f3.length d11_3] 171] := HS; have F := HS.boxes; simp only [boxFacts, and_true] at F; (try simp only [c21])) | ((with_reducible refine gate_dst (N := 30) rfl ?_); refine gate_guard (by rfl) ?_; refine ev_call rfl Try.func131 (by kernel_rfl) rfl #[.slice B11_2 (rd_T171 a0.f6 x6).f2.length d11_2, .int .i64 5] rfl (by simp only [List.map_toArray, List.map_cons, List.map_nil]; rfl) ?_; refine (spec_l15Texts.calls ht22.out (HS.ro y11_2) m11_2).mono ?_; rintro _ wt22 ⟨rfl, HQ⟩; refine ⟨_, rfl, ?_⟩; replace HS := HS.call HQ; clear HQ; (try clear F); replace HS : Hp noFP w _ [.box g1 [.string a0.f0, .int .i64 a0.f1, .int .i64 a0.f2, .int .i64 a0.f3, .int .i64 a0.f4, .int .i64 a0.f5, .slice (some ad11) a0.f6.length cp0, .string a0.f7] 49, .box g4 [.int .i64 ((rd_T171 a0.f6 x6).f0), .int .i64 ((rd_T171 a0.f6 x6).f1), .slice B11_2 (rd_T171 a0.f6 x6).f2.length d11_2, .slice B11_3 (rd_T171 a0.f6 x6).f3.length d11_3] 171] := HS; have F := HS.boxes; simp only [boxFacts, and_true] at F; (try simp only [c24])) | ((with_reducible refine gate_dst (N := 36) rfl ?_); refine gate_guard (by rfl) ?_; refine ev_call rfl Try.func131 (by kernel_rfl) rfl #[.slice B11_3 (rd_T171 a0.f6 x6).f3.length d11_3, .int .i64 8] rfl (by simp only [List.map_toArray, List.map_cons, List.map_nil]; rfl) ?_; refine (spec_l15Texts.calls ht25.out (HS.ro y11_3) m11_3).mono ?_; rintro _ wt25 ⟨rfl, HQ⟩; refine ⟨_, rfl, ?_⟩; replace HS := HS.call HQ; clear HQ; (try clear F); replace HS : Hp noFP w _ [.box g1 [.string a0.f0, .int .i64 a0.f1, .int .i64 a0.f2, .int .i64 a0.f3, .int .i64 a0.f4, .int .i64 a0.f5, .slice (some ad11) a0.f6.length cp0, .string a0.f7] 49, .box g4 [.int .i64 ((rd_T171 a0.f6 x6).f0), .int .i64 ((rd_T171 a0.f6 x6).f1), .slice B11_2 (rd_T171 a0.f6 x6).f2.length d11_2, .slice B11_3 (rd_T171 a0.f6 x6).f3.length d11_3] 171] := HS; have F := HS.boxes; simp only [boxFacts, and_true] at F))
           by_cases c27 : t25 = true
           · replace H := zpos c27 H
             (try simp only [c27, decide_true, decide_false, Bool.not_true, Bool.not_false])
             go_wp2
             go_roundg k5
             case measure => have := HKk5.out; omega
             case rel => exact ⟨_, rfl, H, ⟨by have := HKk5.out; omega⟩, HS.pick [0] (by decide) (by rfl)⟩
           · replace H := zneg c27 H
             replace c27 := eq_false_of_ne_true c27
             (try simp only [c27, decide_true, decide_false, Bool.not_true, Bool.not_false])
             obtain rfl := zsome H
             go_wp2
             go_ret
             exact ⟨rfl, HS.pick [] (by decide) (by rfl)⟩
         · replace H := zneg c24 H
           replace c24 := eq_false_of_ne_true c24
           obtain rfl := zsome H
           go_wp2_with (first | ((with_reducible refine gate_dst (N := 4) rfl ?_); refine ev_box rfl HS (by first | (go_simp; done) | (go_simp; rfl)) rfl ?_; clear HS; (try clear F); intro g4 w4 HS; replace HS : Hp noFP w _ [.box g1 [.string a0.f0, .int .i64 a0.f1, .int .i64 a0.f2, .int .i64 a0.f3, .int .i64 a0.f4, .int .i64 a0.f5, .slice (some ad11) a0.f6.length cp0, .string a0.f7] 49, .box g4 [.int .i64 0, .int .i64 0, .slice none 0 0, .slice none 0 0] 171] := HS; have F := HS.boxes; simp only [boxFacts, and_true] at F) | ((with_reducible refine gate_store (p := 4) rfl ?_); refine ev_store rfl 1 0 HS (seg := [.int .i64 ((rd_T171 a0.f6 x6).f0), .int .i64 ((rd_T171 a0.f6 x6).f1), .slice B11_2 (rd_T171 a0.f6 x6).f2.length d11_2, .slice B11_3 (rd_T171 a0.f6 x6).f3.length d11_3]) rfl rfl rfl rfl rfl rfl (by kernel_rfl) (by simp [wrt]) (by simp [Value.oneCell']) ?_; clear HS; (try clear F); intro w14 HS; replace HS : Hp noFP w _ [.box g1 [.string a0.f0, .int .i64 a0.f1, .int .i64 a0.f2, .int .i64 a0.f3, .int .i64 a0.f4, .int .i64 a0.f5, .slice (some ad11) a0.f6.length cp0, .string a0.f7] 49, .box g4 [.int .i64 ((rd_T171 a0.f6 x6).f0), .int .i64 ((rd_T171 a0.f6 x6).f1), .slice B11_2 (rd_T171 a0.f6 x6).f2.length d11_2, .slice B11_3 (rd_T171 a0.f6 x6).f3.length d11_3] 171] := HS; have F := HS.boxes; simp only [boxFacts, and_true] at F) | ((with_reducible refine gate_dst (N := 19) rfl ?_); refine ev_call rfl Try.func101 (by kernel_rfl) rfl #[.int .i64 ((rd_T171 a0.f6 x6).f0), .int .i64 0, .int .i64 2] rfl (by simp only [List.map_toArray, List.map_cons, List.map_nil]; rfl) ?_; refine (spec_l01In.calls ht16.out).mono ?_; rintro _ wt16 ⟨rfl, HQ⟩; refine ⟨_, rfl, ?_⟩; replace HS := HS.call HQ; clear HQ; (try clear F); replace HS : Hp noFP w _ [.box g1 [.string a0.f0, .int .i64 a0.f1, .int .i64 a0.f2, .int .i64 a0.f3, .int .i64 a0.f4, .int .i64 a0.f5, .slice (some ad11) a0.f6.length cp0, .string a0.f7] 49, .box g4 [.int .i64 ((rd_T171 a0.f6 x6).f0), .int .i64 ((rd_T171 a0.f6 x6).f1), .slice B11_2 (rd_T171 a0.f6 x6).f2.length d11_2, .slice B11_3 (rd_T171 a0.f6 x6).f3.length d11_3] 171] := HS; have F := HS.boxes; simp only [boxFacts, and_true] at F; (try simp only [c18])) | ((with_reducible refine gate_dst (N := 24) rfl ?_); refine gate_guard (by rfl) ?_; refine ev_call rfl Try.func101 (by kernel_rfl) rfl #[.int .i64 ((rd_T171 a0.f6 x6).f1), .int .i64 0, .int .i64 12] rfl (by simp only [List.map_toArray, List.map_cons, List.map_nil]; rfl) ?_; refine (spec_l01In.calls ht19.out).mono ?_; rintro _ wt19 ⟨rfl, HQ⟩; refine ⟨_, rfl, ?_⟩; replace HS := HS.call HQ; clear HQ; (try clear F); replace HS : Hp noFP w _ [.box g1 [.string a0.f0, .int .i64 a0.f1, .int .i64 a0.f2, .int .i64 a0.f3, .int .i64 a0.f4, .int .i64 a0.f5, .slice (some ad11) a0.f6.length cp0, .string a0.f7] 49, .box g4 [.int .i64 ((rd_T171 a0.f6 x6).f0), .int .i64 ((rd_T171 a0.f6 x6).f1), .slice B11_2 (rd_T171 a0.f6 x6).f2.length d11_2, .slice B11_3 (rd_T171 a0.f6 x6).f3.length d11_3] 171] := HS; have F := HS.boxes; simp only [boxFacts, and_true] at F; (try simp only [c21])) | ((with_reducible refine gate_dst (N := 30) rfl ?_); refine gate_guard (by rfl) ?_; refine ev_call rfl Try.func131 (by kernel_rfl) rfl #[.slice B11_2 (rd_T171 a0.f6 x6).f2.length d11_2, .int .i64 5] rfl (by simp only [List.map_toArray, List.map_cons, List.map_nil]; rfl) ?_; refine (spec_l15Texts.calls ht22.out (HS.ro y11_2) m11_2).mono ?_; rintro _ wt22 ⟨rfl, HQ⟩; refine ⟨_, rfl, ?_⟩; replace HS := HS.call HQ; clear HQ; (try clear F); replace HS : Hp noFP w _ [.box g1 [.string a0.f0, .int .i64 a0.f1, .int .i64 a0.f2, .int .i64 a0.f3, .int .i64 a0.f4, .int .i64 a0.f5, .slice (some ad11) a0.f6.length cp0, .string a0.f7] 49, .box g4 [.int .i64 ((rd_T171 a0.f6 x6).f0), .int .i64 ((rd_T171 a0.f6 x6).f1), .slice B11_2 (rd_T171 a0.f6 x6).f2.length d11_2, .slice B11_3 (rd_T171 a0.f6 x6).f3.length d11_3] 171] := HS; have F := HS.boxes; simp only [boxFacts, and_true] at F; (try simp only [c24])))
           go_ret
           exact ⟨rfl, HS.pick [] (by decide) (by rfl)⟩
       · replace H := zneg c21 H
         replace c21 := eq_false_of_ne_true c21
         obtain rfl := zsome H
         go_wp2_with (first | ((with_reducible refine gate_dst (N := 4) rfl ?_); refine ev_box rfl HS (by first | (go_simp; done) | (go_simp; rfl)) rfl ?_; clear HS; (try clear F); intro g4 w4 HS; replace HS : Hp noFP w _ [.box g1 [.string a0.f0, .int .i64 a0.f1, .int .i64 a0.f2, .int .i64 a0.f3, .int .i64 a0.f4, .int .i64 a0.f5, .slice (some ad11) a0.f6.length cp0, .string a0.f7] 49, .box g4 [.int .i64 0, .int .i64 0, .slice none 0 0, .slice none 0 0] 171] := HS; have F := HS.boxes; simp only [boxFacts, and_true] at F) | ((with_reducible refine gate_store (p := 4) rfl ?_); refine ev_store rfl 1 0 HS (seg := [.int .i64 ((rd_T171 a0.f6 x6).f0), .int .i64 ((rd_T171 a0.f6 x6).f1), .slice B11_2 (rd_T171 a0.f6 x6).f2.length d11_2, .slice B11_3 (rd_T171 a0.f6 x6).f3.length d11_3]) rfl rfl rfl rfl rfl rfl (by kernel_rfl) (by simp [wrt]) (by simp [Value.oneCell']) ?_; clear HS; (try clear F); intro w14 HS; replace HS : Hp noFP w _ [.box g1 [.string a0.f0, .int .i64 a0.f1, .int .i64 a0.f2, .int .i64 a0.f3, .int .i64 a0.f4, .int .i64 a0.f5, .slice (some ad11) a0.f6.length cp0, .string a0.f7] 49, .box g4 [.int .i64 ((rd_T171 a0.f6 x6).f0), .int .i64 ((rd_T171 a0.f6 x6).f1), .slice B11_2 (rd_T171 a0.f6 x6).f2.length d11_2, .slice B11_3 (rd_T171 a0.f6 x6).f3.length d11_3] 171] := HS; have F := HS.boxes; simp only [boxFacts, and_true] at F) | ((with_reducible refine gate_dst (N := 19) rfl ?_); refine ev_call rfl Try.func101 (by kernel_rfl) rfl #[.int .i64 ((rd_T171 a0.f6 x6).f0), .int .i64 0, .int .i64 2] rfl (by simp only [List.map_toArray, List.map_cons, List.map_nil]; rfl) ?_; refine (spec_l01In.calls ht16.out).mono ?_; rintro _ wt16 ⟨rfl, HQ⟩; refine ⟨_, rfl, ?_⟩; replace HS := HS.call HQ; clear HQ; (try clear F); replace HS : Hp noFP w _ [.box g1 [.string a0.f0, .int .i64 a0.f1, .int .i64 a0.f2, .int .i64 a0.f3, .int .i64 a0.f4, .int .i64 a0.f5, .slice (some ad11) a0.f6.length cp0, .string a0.f7] 49, .box g4 [.int .i64 ((rd_T171 a0.f6 x6).f0), .int .i64 ((rd_T171 a0.f6 x6).f1), .slice B11_2 (rd_T171 a0.f6 x6).f2.length d11_2, .slice B11_3 (rd_T171 a0.f6 x6).f3.length d11_3] 171] := HS; have F := HS.boxes; simp only [boxFacts, and_true] at F; (try simp only [c18])) | ((with_reducible refine gate_dst (N := 24) rfl ?_); refine gate_guard (by rfl) ?_; refine ev_call rfl Try.func101 (by kernel_rfl) rfl #[.int .i64 ((rd_T171 a0.f6 x6).f1), .int .i64 0, .int .i64 12] rfl (by simp only [List.map_toArray, List.map_cons, List.map_nil]; rfl) ?_; refine (spec_l01In.calls ht19.out).mono ?_; rintro _ wt19 ⟨rfl, HQ⟩; refine ⟨_, rfl, ?_⟩; replace HS := HS.call HQ; clear HQ; (try clear F); replace HS : Hp noFP w _ [.box g1 [.string a0.f0, .int .i64 a0.f1, .int .i64 a0.f2, .int .i64 a0.f3, .int .i64 a0.f4, .int .i64 a0.f5, .slice (some ad11) a0.f6.length cp0, .string a0.f7] 49, .box g4 [.int .i64 ((rd_T171 a0.f6 x6).f0), .int .i64 ((rd_T171 a0.f6 x6).f1), .slice B11_2 (rd_T171 a0.f6 x6).f2.length d11_2, .slice B11_3 (rd_T171 a0.f6 x6).f3.length d11_3] 171] := HS; have F := HS.boxes; simp only [boxFacts, and_true] at F; (try simp only [c21])))
         go_ret
         exact ⟨rfl, HS.pick [] (by decide) (by rfl)⟩
     · replace H := zneg c18 H
       replace c18 := eq_false_of_ne_true c18
       obtain rfl := zsome H
       go_wp2_with (first | ((with_reducible refine gate_dst (N := 4) rfl ?_); refine ev_box rfl HS (by first | (go_simp; done) | (go_simp; rfl)) rfl ?_; clear HS; (try clear F); intro g4 w4 HS; replace HS : Hp noFP w _ [.box g1 [.string a0.f0, .int .i64 a0.f1, .int .i64 a0.f2, .int .i64 a0.f3, .int .i64 a0.f4, .int .i64 a0.f5, .slice (some ad11) a0.f6.length cp0, .string a0.f7] 49, .box g4 [.int .i64 0, .int .i64 0, .slice none 0 0, .slice none 0 0] 171] := HS; have F := HS.boxes; simp only [boxFacts, and_true] at F) | ((with_reducible refine gate_store (p := 4) rfl ?_); refine ev_store rfl 1 0 HS (seg := [.int .i64 ((rd_T171 a0.f6 x6).f0), .int .i64 ((rd_T171 a0.f6 x6).f1), .slice B11_2 (rd_T171 a0.f6 x6).f2.length d11_2, .slice B11_3 (rd_T171 a0.f6 x6).f3.length d11_3]) rfl rfl rfl rfl rfl rfl (by kernel_rfl) (by simp [wrt]) (by simp [Value.oneCell']) ?_; clear HS; (try clear F); intro w14 HS; replace HS : Hp noFP w _ [.box g1 [.string a0.f0, .int .i64 a0.f1, .int .i64 a0.f2, .int .i64 a0.f3, .int .i64 a0.f4, .int .i64 a0.f5, .slice (some ad11) a0.f6.length cp0, .string a0.f7] 49, .box g4 [.int .i64 ((rd_T171 a0.f6 x6).f0), .int .i64 ((rd_T171 a0.f6 x6).f1), .slice B11_2 (rd_T171 a0.f6 x6).f2.length d11_2, .slice B11_3 (rd_T171 a0.f6 x6).f3.length d11_3] 171] := HS; have F := HS.boxes; simp only [boxFacts, and_true] at F) | ((with_reducible refine gate_dst (N := 19) rfl ?_); refine ev_call rfl Try.func101 (by kernel_rfl) rfl #[.int .i64 ((rd_T171 a0.f6 x6).f0), .int .i64 0, .int .i64 2] rfl (by simp only [List.map_toArray, List.map_cons, List.map_nil]; rfl) ?_; refine (spec_l01In.calls ht16.out).mono ?_; rintro _ wt16 ⟨rfl, HQ⟩; refine ⟨_, rfl, ?_⟩; replace HS := HS.call HQ; clear HQ; (try clear F); replace HS : Hp noFP w _ [.box g1 [.string a0.f0, .int .i64 a0.f1, .int .i64 a0.f2, .int .i64 a0.f3, .int .i64 a0.f4, .int .i64 a0.f5, .slice (some ad11) a0.f6.length cp0, .string a0.f7] 49, .box g4 [.int .i64 ((rd_T171 a0.f6 x6).f0), .int .i64 ((rd_T171 a0.f6 x6).f1), .slice B11_2 (rd_T171 a0.f6 x6).f2.length d11_2, .slice B11_3 (rd_T171 a0.f6 x6).f3.length d11_3] 171] := HS; have F := HS.boxes; simp only [boxFacts, and_true] at F; (try simp only [c18])))
       go_ret
       exact ⟨rfl, HS.pick [] (by decide) (by rfl)⟩
   · replace H := zneg c8 H
     replace c8 := eq_false c8
     by_cases c28 : (a0.f0.size : Int) = 32
     · replace H := zpos c28 H
       have c28a := beq_iff_eq.mpr c28
       have c28b := bne_eq_false_iff_eq.mpr c28
       clear c28
       obtain ⟨t29, ht29, H⟩ := zbind H
       by_cases c31 : t29 = true
       · replace H := zpos c31 H
         obtain ⟨t32, ht32, H⟩ := zbind H
         by_cases c34 : t32 = true
         · replace H := zpos c34 H
           obtain ⟨t35, ht35, H⟩ := zbind H
           by_cases c37 : t35 = true
           · replace H := zpos c37 H
             obtain ⟨t38, ht38, H⟩ := zbind H
             by_cases c40 : t38 = true
             · replace H := zpos c40 H
               obtain ⟨t41, ht41, H⟩ := zbind H
               by_cases c43 : t41 = true
               · replace H := zpos c43 H
                 by_cases c44 : (a0.f6.length : Int) ≤ 3
                 · replace H := zpos c44 H
                   replace c44 := eq_true c44
                   obtain rfl := zsome H
                   go_wp2_with (first | ((with_reducible refine gate_dst (N := 46) rfl ?_); refine gate_guard (by rfl) ?_; refine ev_call rfl Try.func101 (by kernel_rfl) rfl #[.int .i64 a0.f1, .int .i64 0, .int .i64 1000000000] rfl (by simp only [List.map_toArray, List.map_cons, List.map_nil]; rfl) ?_; refine (spec_l01In.calls ht29.out).mono ?_; rintro _ wt29 ⟨rfl, HQ⟩; refine ⟨_, rfl, ?_⟩; replace HS := HS.call HQ; clear HQ; (try clear F); replace HS : Hp noFP w _ [.box g1 [.string a0.f0, .int .i64 a0.f1, .int .i64 a0.f2, .int .i64 a0.f3, .int .i64 a0.f4, .int .i64 a0.f5, .slice Ap0 a0.f6.length cp0, .string a0.f7] 49] := HS; have F := HS.boxes; simp only [boxFacts, and_true] at F; (try simp only [c31])) | ((with_reducible refine gate_dst (N := 51) rfl ?_); refine gate_guard (by rfl) ?_; refine ev_call rfl Try.func101 (by kernel_rfl) rfl #[.int .i64 a0.f2, .int .i64 0, .int .i64 19999] rfl (by simp only [List.map_toArray, List.map_cons, List.map_nil]; rfl) ?_; refine (spec_l01In.calls ht32.out).mono ?_; rintro _ wt32 ⟨rfl, HQ⟩; refine ⟨_, rfl, ?_⟩; replace HS := HS.call HQ; clear HQ; (try clear F); replace HS : Hp noFP w _ [.box g1 [.string a0.f0, .int .i64 a0.f1, .int .i64 a0.f2, .int .i64 a0.f3, .int .i64 a0.f4, .int .i64 a0.f5, .slice Ap0 a0.f6.length cp0, .string a0.f7] 49] := HS; have F := HS.boxes; simp only [boxFacts, and_true] at F; (try simp only [c34])) | ((with_reducible refine gate_dst (N := 56) rfl ?_); refine gate_guard (by rfl) ?_; refine ev_call rfl Try.func101 (by kernel_rfl) rfl #[.int .i64 a0.f3, .int .i64 0, .int .i64 19999] rfl (by simp only [List.map_toArray, List.map_cons, List.map_nil]; rfl) ?_; refine (spec_l01In.calls ht35.out).mono ?_; rintro _ wt35 ⟨rfl, HQ⟩; refine ⟨_, rfl, ?_⟩; replace HS := HS.call HQ; clear HQ; (try clear F); replace HS : Hp noFP w _ [.box g1 [.string a0.f0, .int .i64 a0.f1, .int .i64 a0.f2, .int .i64 a0.f3, .int .i64 a0.f4, .int .i64 a0.f5, .slice Ap0 a0.f6.length cp0, .string a0.f7] 49] := HS; have F := HS.boxes; simp only [boxFacts, and_true] at F; (try simp only [c37])) | ((with_reducible refine gate_dst (N := 61) rfl ?_); refine gate_guard (by rfl) ?_; refine ev_call rfl Try.func101 (by kernel_rfl) rfl #[.int .i64 a0.f4, .int .i64 0, .int .i64 99] rfl (by simp only [List.map_toArray, List.map_cons, List.map_nil]; rfl) ?_; refine (spec_l01In.calls ht38.out).mono ?_; rintro _ wt38 ⟨rfl, HQ⟩; refine ⟨_, rfl, ?_⟩; replace HS := HS.call HQ; clear HQ; (try clear F); replace HS : Hp noFP w _ [.box g1 [.string a0.f0, .int .i64 a0.f1, .int .i64 a0.f2, .int .i64 a0.f3, .int .i64 a0.f4, .int .i64 a0.f5, .slice Ap0 a0.f6.length cp0, .string a0.f7] 49] := HS; have F := HS.boxes; simp only [boxFacts, and_true] at F; (try simp only [c40])) | ((with_reducible refine gate_dst (N := 66) rfl ?_); refine gate_guard (by rfl) ?_; refine ev_call rfl Try.func101 (by kernel_rfl) rfl #[.int .i64 a0.f5, .int .i64 0, .int .i64 2] rfl (by simp only [List.map_toArray, List.map_cons, List.map_nil]; rfl) ?_; refine (spec_l01In.calls ht41.out).mono ?_; rintro _ wt41 ⟨rfl, HQ⟩; refine ⟨_, rfl, ?_⟩; replace HS := HS.call HQ; clear HQ; (try clear F); replace HS : Hp noFP w _ [.box g1 [.string a0.f0, .int .i64 a0.f1, .int .i64 a0.f2, .int .i64 a0.f3, .int .i64 a0.f4, .int .i64 a0.f5, .slice Ap0 a0.f6.length cp0, .string a0.f7] 49] := HS; have F := HS.boxes; simp only [boxFacts, and_true] at F; (try simp only [c43])))
                   go_ret
                   exact ⟨rfl, HS.pick [] (by decide) (by rfl)⟩
                 · replace H := zneg c44 H
                   replace c44 := eq_false c44
                   obtain rfl := zsome H
                   go_wp2_with (first | ((with_reducible refine gate_dst (N := 46) rfl ?_); refine gate_guard (by rfl) ?_; refine ev_call rfl Try.func101 (by kernel_rfl) rfl #[.int .i64 a0.f1, .int .i64 0, .int .i64 1000000000] rfl (by simp only [List.map_toArray, List.map_cons, List.map_nil]; rfl) ?_; refine (spec_l01In.calls ht29.out).mono ?_; rintro _ wt29 ⟨rfl, HQ⟩; refine ⟨_, rfl, ?_⟩; replace HS := HS.call HQ; clear HQ; (try clear F); replace HS : Hp noFP w _ [.box g1 [.string a0.f0, .int .i64 a0.f1, .int .i64 a0.f2, .int .i64 a0.f3, .int .i64 a0.f4, .int .i64 a0.f5, .slice Ap0 a0.f6.length cp0, .string a0.f7] 49] := HS; have F := HS.boxes; simp only [boxFacts, and_true] at F; (try simp only [c31])) | ((with_reducible refine gate_dst (N := 51) rfl ?_); refine gate_guard (by rfl) ?_; refine ev_call rfl Try.func101 (by kernel_rfl) rfl #[.int .i64 a0.f2, .int .i64 0, .int .i64 19999] rfl (by simp only [List.map_toArray, List.map_cons, List.map_nil]; rfl) ?_; refine (spec_l01In.calls ht32.out).mono ?_; rintro _ wt32 ⟨rfl, HQ⟩; refine ⟨_, rfl, ?_⟩; replace HS := HS.call HQ; clear HQ; (try clear F); replace HS : Hp noFP w _ [.box g1 [.string a0.f0, .int .i64 a0.f1, .int .i64 a0.f2, .int .i64 a0.f3, .int .i64 a0.f4, .int .i64 a0.f5, .slice Ap0 a0.f6.length cp0, .string a0.f7] 49] := HS; have F := HS.boxes; simp only [boxFacts, and_true] at F; (try simp only [c34])) | ((with_reducible refine gate_dst (N := 56) rfl ?_); refine gate_guard (by rfl) ?_; refine ev_call rfl Try.func101 (by kernel_rfl) rfl #[.int .i64 a0.f3, .int .i64 0, .int .i64 19999] rfl (by simp only [List.map_toArray, List.map_cons, List.map_nil]; rfl) ?_; refine (spec_l01In.calls ht35.out).mono ?_; rintro _ wt35 ⟨rfl, HQ⟩; refine ⟨_, rfl, ?_⟩; replace HS := HS.call HQ; clear HQ; (try clear F); replace HS : Hp noFP w _ [.box g1 [.string a0.f0, .int .i64 a0.f1, .int .i64 a0.f2, .int .i64 a0.f3, .int .i64 a0.f4, .int .i64 a0.f5, .slice Ap0 a0.f6.length cp0, .string a0.f7] 49] := HS; have F := HS.boxes; simp only [boxFacts, and_true] at F; (try simp only [c37])) | ((with_reducible refine gate_dst (N := 61) rfl ?_); refine gate_guard (by rfl) ?_; refine ev_call rfl Try.func101 (by kernel_rfl) rfl #[.int .i64 a0.f4, .int .i64 0, .int .i64 99] rfl (by simp only [List.map_toArray, List.map_cons, List.map_nil]; rfl) ?_; refine (spec_l01In.calls ht38.out).mono ?_; rintro _ wt38 ⟨rfl, HQ⟩; refine ⟨_, rfl, ?_⟩; replace HS := HS.call HQ; clear HQ; (try clear F); replace HS : Hp noFP w _ [.box g1 [.string a0.f0, .int .i64 a0.f1, .int .i64 a0.f2, .int .i64 a0.f3, .int .i64 a0.f4, .int .i64 a0.f5, .slice Ap0 a0.f6.length cp0, .string a0.f7] 49] := HS; have F := HS.boxes; simp only [boxFacts, and_true] at F; (try simp only [c40])) | ((with_reducible refine gate_dst (N := 66) rfl ?_); refine gate_guard (by rfl) ?_; refine ev_call rfl Try.func101 (by kernel_rfl) rfl #[.int .i64 a0.f5, .int .i64 0, .int .i64 2] rfl (by simp only [List.map_toArray, List.map_cons, List.map_nil]; rfl) ?_; refine (spec_l01In.calls ht41.out).mono ?_; rintro _ wt41 ⟨rfl, HQ⟩; refine ⟨_, rfl, ?_⟩; replace HS := HS.call HQ; clear HQ; (try clear F); replace HS : Hp noFP w _ [.box g1 [.string a0.f0, .int .i64 a0.f1, .int .i64 a0.f2, .int .i64 a0.f3, .int .i64 a0.f4, .int .i64 a0.f5, .slice Ap0 a0.f6.length cp0, .string a0.f7] 49] := HS; have F := HS.boxes; simp only [boxFacts, and_true] at F; (try simp only [c43])))
                   go_ret
                   exact ⟨rfl, HS.pick [] (by decide) (by rfl)⟩
               · replace H := zneg c43 H
                 replace c43 := eq_false_of_ne_true c43
                 obtain rfl := zsome H
                 go_wp2_with (first | ((with_reducible refine gate_dst (N := 46) rfl ?_); refine gate_guard (by rfl) ?_; refine ev_call rfl Try.func101 (by kernel_rfl) rfl #[.int .i64 a0.f1, .int .i64 0, .int .i64 1000000000] rfl (by simp only [List.map_toArray, List.map_cons, List.map_nil]; rfl) ?_; refine (spec_l01In.calls ht29.out).mono ?_; rintro _ wt29 ⟨rfl, HQ⟩; refine ⟨_, rfl, ?_⟩; replace HS := HS.call HQ; clear HQ; (try clear F); replace HS : Hp noFP w _ [.box g1 [.string a0.f0, .int .i64 a0.f1, .int .i64 a0.f2, .int .i64 a0.f3, .int .i64 a0.f4, .int .i64 a0.f5, .slice Ap0 a0.f6.length cp0, .string a0.f7] 49] := HS; have F := HS.boxes; simp only [boxFacts, and_true] at F; (try simp only [c31])) | ((with_reducible refine gate_dst (N := 51) rfl ?_); refine gate_guard (by rfl) ?_; refine ev_call rfl Try.func101 (by kernel_rfl) rfl #[.int .i64 a0.f2, .int .i64 0, .int .i64 19999] rfl (by simp only [List.map_toArray, List.map_cons, List.map_nil]; rfl) ?_; refine (spec_l01In.calls ht32.out).mono ?_; rintro _ wt32 ⟨rfl, HQ⟩; refine ⟨_, rfl, ?_⟩; replace HS := HS.call HQ; clear HQ; (try clear F); replace HS : Hp noFP w _ [.box g1 [.string a0.f0, .int .i64 a0.f1, .int .i64 a0.f2, .int .i64 a0.f3, .int .i64 a0.f4, .int .i64 a0.f5, .slice Ap0 a0.f6.length cp0, .string a0.f7] 49] := HS; have F := HS.boxes; simp only [boxFacts, and_true] at F; (try simp only [c34])) | ((with_reducible refine gate_dst (N := 56) rfl ?_); refine gate_guard (by rfl) ?_; refine ev_call rfl Try.func101 (by kernel_rfl) rfl #[.int .i64 a0.f3, .int .i64 0, .int .i64 19999] rfl (by simp only [List.map_toArray, List.map_cons, List.map_nil]; rfl) ?_; refine (spec_l01In.calls ht35.out).mono ?_; rintro _ wt35 ⟨rfl, HQ⟩; refine ⟨_, rfl, ?_⟩; replace HS := HS.call HQ; clear HQ; (try clear F); replace HS : Hp noFP w _ [.box g1 [.string a0.f0, .int .i64 a0.f1, .int .i64 a0.f2, .int .i64 a0.f3, .int .i64 a0.f4, .int .i64 a0.f5, .slice Ap0 a0.f6.length cp0, .string a0.f7] 49] := HS; have F := HS.boxes; simp only [boxFacts, and_true] at F; (try simp only [c37])) | ((with_reducible refine gate_dst (N := 61) rfl ?_); refine gate_guard (by rfl) ?_; refine ev_call rfl Try.func101 (by kernel_rfl) rfl #[.int .i64 a0.f4, .int .i64 0, .int .i64 99] rfl (by simp only [List.map_toArray, List.map_cons, List.map_nil]; rfl) ?_; refine (spec_l01In.calls ht38.out).mono ?_; rintro _ wt38 ⟨rfl, HQ⟩; refine ⟨_, rfl, ?_⟩; replace HS := HS.call HQ; clear HQ; (try clear F); replace HS : Hp noFP w _ [.box g1 [.string a0.f0, .int .i64 a0.f1, .int .i64 a0.f2, .int .i64 a0.f3, .int .i64 a0.f4, .int .i64 a0.f5, .slice Ap0 a0.f6.length cp0, .string a0.f7] 49] := HS; have F := HS.boxes; simp only [boxFacts, and_true] at F; (try simp only [c40])) | ((with_reducible refine gate_dst (N := 66) rfl ?_); refine gate_guard (by rfl) ?_; refine ev_call rfl Try.func101 (by kernel_rfl) rfl #[.int .i64 a0.f5, .int .i64 0, .int .i64 2] rfl (by simp only [List.map_toArray, List.map_cons, List.map_nil]; rfl) ?_; refine (spec_l01In.calls ht41.out).mono ?_; rintro _ wt41 ⟨rfl, HQ⟩; refine ⟨_, rfl, ?_⟩; replace HS := HS.call HQ; clear HQ; (try clear F); replace HS : Hp noFP w _ [.box g1 [.string a0.f0, .int .i64 a0.f1, .int .i64 a0.f2, .int .i64 a0.f3, .int .i64 a0.f4, .int .i64 a0.f5, .slice Ap0 a0.f6.length cp0, .string a0.f7] 49] := HS; have F := HS.boxes; simp only [boxFacts, and_true] at F; (try simp only [c43])))
                 go_ret
                 exact ⟨rfl, HS.pick [] (by decide) (by rfl)⟩
             · replace H := zneg c40 H
               replace c40 := eq_false_of_ne_true c40
               obtain rfl := zsome H
               go_wp2_with (first | ((with_reducible refine gate_dst (N := 46) rfl ?_); refine gate_guard (by rfl) ?_; refine ev_call rfl Try.func101 (by kernel_rfl) rfl #[.int .i64 a0.f1, .int .i64 0, .int .i64 1000000000] rfl (by simp only [List.map_toArray, List.map_cons, List.map_nil]; rfl) ?_; refine (spec_l01In.calls ht29.out).mono ?_; rintro _ wt29 ⟨rfl, HQ⟩; refine ⟨_, rfl, ?_⟩; replace HS := HS.call HQ; clear HQ; (try clear F); replace HS : Hp noFP w _ [.box g1 [.string a0.f0, .int .i64 a0.f1, .int .i64 a0.f2, .int .i64 a0.f3, .int .i64 a0.f4, .int .i64 a0.f5, .slice Ap0 a0.f6.length cp0, .string a0.f7] 49] := HS; have F := HS.boxes; simp only [boxFacts, and_true] at F; (try simp only [c31])) | ((with_reducible refine gate_dst (N := 51) rfl ?_); refine gate_guard (by rfl) ?_; refine ev_call rfl Try.func101 (by kernel_rfl) rfl #[.int .i64 a0.f2, .int .i64 0, .int .i64 19999] rfl (by simp only [List.map_toArray, List.map_cons, List.map_nil]; rfl) ?_; refine (spec_l01In.calls ht32.out).mono ?_; rintro _ wt32 ⟨rfl, HQ⟩; refine ⟨_, rfl, ?_⟩; replace HS := HS.call HQ; clear HQ; (try clear F); replace HS : Hp noFP w _ [.box g1 [.string a0.f0, .int .i64 a0.f1, .int .i64 a0.f2, .int .i64 a0.f3, .int .i64 a0.f4, .int .i64 a0.f5, .slice Ap0 a0.f6.length cp0, .string a0.f7] 49] := HS; have F := HS.boxes; simp only [boxFacts, and_true] at F; (try simp only [c34])) | ((with_reducible refine gate_dst (N := 56) rfl ?_); refine gate_guard (by rfl) ?_; refine ev_call rfl Try.func101 (by kernel_rfl) rfl #[.int .i64 a0.f3, .int .i64 0, .int .i64 19999] rfl (by simp only [List.map_toArray, List.map_cons, List.map_nil]; rfl) ?_; refine (spec_l01In.calls ht35.out).mono ?_; rintro _ wt35 ⟨rfl, HQ⟩; refine ⟨_, rfl, ?_⟩; replace HS := HS.call HQ; clear HQ; (try clear F); replace HS : Hp noFP w _ [.box g1 [.string a0.f0, .int .i64 a0.f1, .int .i64 a0.f2, .int .i64 a0.f3, .int .i64 a0.f4, .int .i64 a0.f5, .slice Ap0 a0.f6.length cp0, .string a0.f7] 49] := HS; have F := HS.boxes; simp only [boxFacts, and_true] at F; (try simp only [c37])) | ((with_reducible refine gate_dst (N := 61) rfl ?_); refine gate_guard (by rfl) ?_; refine ev_call rfl Try.func101 (by kernel_rfl) rfl #[.int .i64 a0.f4, .int .i64 0, .int .i64 99] rfl (by simp only [List.map_toArray, List.map_cons, List.map_nil]; rfl) ?_; refine (spec_l01In.calls ht38.out).mono ?_; rintro _ wt38 ⟨rfl, HQ⟩; refine ⟨_, rfl, ?_⟩; replace HS := HS.call HQ; clear HQ; (try clear F); replace HS : Hp noFP w _ [.box g1 [.string a0.f0, .int .i64 a0.f1, .int .i64 a0.f2, .int .i64 a0.f3, .int .i64 a0.f4, .int .i64 a0.f5, .slice Ap0 a0.f6.length cp0, .string a0.f7] 49] := HS; have F := HS.boxes; simp only [boxFacts, and_true] at F; (try simp only [c40])))
               go_ret
               exact ⟨rfl, HS.pick [] (by decide) (by rfl)⟩
           · replace H := zneg c37 H
             replace c37 := eq_false_of_ne_true c37
             obtain rfl := zsome H
             go_wp2_with (first | ((with_reducible refine gate_dst (N := 46) rfl ?_); refine gate_guard (by rfl) ?_; refine ev_call rfl Try.func101 (by kernel_rfl) rfl #[.int .i64 a0.f1, .int .i64 0, .int .i64 1000000000] rfl (by simp only [List.map_toArray, List.map_cons, List.map_nil]; rfl) ?_; refine (spec_l01In.calls ht29.out).mono ?_; rintro _ wt29 ⟨rfl, HQ⟩; refine ⟨_, rfl, ?_⟩; replace HS := HS.call HQ; clear HQ; (try clear F); replace HS : Hp noFP w _ [.box g1 [.string a0.f0, .int .i64 a0.f1, .int .i64 a0.f2, .int .i64 a0.f3, .int .i64 a0.f4, .int .i64 a0.f5, .slice Ap0 a0.f6.length cp0, .string a0.f7] 49] := HS; have F := HS.boxes; simp only [boxFacts, and_true] at F; (try simp only [c31])) | ((with_reducible refine gate_dst (N := 51) rfl ?_); refine gate_guard (by rfl) ?_; refine ev_call rfl Try.func101 (by kernel_rfl) rfl #[.int .i64 a0.f2, .int .i64 0, .int .i64 19999] rfl (by simp only [List.map_toArray, List.map_cons, List.map_nil]; rfl) ?_; refine (spec_l01In.calls ht32.out).mono ?_; rintro _ wt32 ⟨rfl, HQ⟩; refine ⟨_, rfl, ?_⟩; replace HS := HS.call HQ; clear HQ; (try clear F); replace HS : Hp noFP w _ [.box g1 [.string a0.f0, .int .i64 a0.f1, .int .i64 a0.f2, .int .i64 a0.f3, .int .i64 a0.f4, .int .i64 a0.f5, .slice Ap0 a0.f6.length cp0, .string a0.f7] 49] := HS; have F := HS.boxes; simp only [boxFacts, and_true] at F; (try simp only [c34])) | ((with_reducible refine gate_dst (N := 56) rfl ?_); refine gate_guard (by rfl) ?_; refine ev_call rfl Try.func101 (by kernel_rfl) rfl #[.int .i64 a0.f3, .int .i64 0, .int .i64 19999] rfl (by simp only [List.map_toArray, List.map_cons, List.map_nil]; rfl) ?_; refine (spec_l01In.calls ht35.out).mono ?_; rintro _ wt35 ⟨rfl, HQ⟩; refine ⟨_, rfl, ?_⟩; replace HS := HS.call HQ; clear HQ; (try clear F); replace HS : Hp noFP w _ [.box g1 [.string a0.f0, .int .i64 a0.f1, .int .i64 a0.f2, .int .i64 a0.f3, .int .i64 a0.f4, .int .i64 a0.f5, .slice Ap0 a0.f6.length cp0, .string a0.f7] 49] := HS; have F := HS.boxes; simp only [boxFacts, and_true] at F; (try simp only [c37])))
             go_ret
             exact ⟨rfl, HS.pick [] (by decide) (by rfl)⟩
         · replace H := zneg c34 H
           replace c34 := eq_false_of_ne_true c34
           obtain rfl := zsome H
           go_wp2_with (first | ((with_reducible refine gate_dst (N := 46) rfl ?_); refine gate_guard (by rfl) ?_; refine ev_call rfl Try.func101 (by kernel_rfl) rfl #[.int .i64 a0.f1, .int .i64 0, .int .i64 1000000000] rfl (by simp only [List.map_toArray, List.map_cons, List.map_nil]; rfl) ?_; refine (spec_l01In.calls ht29.out).mono ?_; rintro _ wt29 ⟨rfl, HQ⟩; refine ⟨_, rfl, ?_⟩; replace HS := HS.call HQ; clear HQ; (try clear F); replace HS : Hp noFP w _ [.box g1 [.string a0.f0, .int .i64 a0.f1, .int .i64 a0.f2, .int .i64 a0.f3, .int .i64 a0.f4, .int .i64 a0.f5, .slice Ap0 a0.f6.length cp0, .string a0.f7] 49] := HS; have F := HS.boxes; simp only [boxFacts, and_true] at F; (try simp only [c31])) | ((with_reducible refine gate_dst (N := 51) rfl ?_); refine gate_guard (by rfl) ?_; refine ev_call rfl Try.func101 (by kernel_rfl) rfl #[.int .i64 a0.f2, .int .i64 0, .int .i64 19999] rfl (by simp only [List.map_toArray, List.map_cons, List.map_nil]; rfl) ?_; refine (spec_l01In.calls ht32.out).mono ?_; rintro _ wt32 ⟨rfl, HQ⟩; refine ⟨_, rfl, ?_⟩; replace HS := HS.call HQ; clear HQ; (try clear F); replace HS : Hp noFP w _ [.box g1 [.string a0.f0, .int .i64 a0.f1, .int .i64 a0.f2, .int .i64 a0.f3, .int .i64 a0.f4, .int .i64 a0.f5, .slice Ap0 a0.f6.length cp0, .string a0.f7] 49] := HS; have F := HS.boxes; simp only [boxFacts, and_true] at F; (try simp only [c34])))
           go_ret
           exact ⟨rfl, HS.pick [] (by decide) (by rfl)⟩
       · replace H := zneg c31 H
         replace c31 := eq_false_of_ne_true c31
         obtain rfl := zsome H
         go_wp2_with (first | ((with_reducible refine gate_dst (N := 46) rfl ?_); refine gate_guard (by rfl) ?_; refine ev_call rfl Try.func101 (by kernel_rfl) rfl #[.int .i64 a0.f1, .int .i64 0, .int .i64 1000000000] rfl (by simp only [List.map_toArray, List.map_cons, List.map_nil]; rfl) ?_; refine (spec_l01In.calls ht29.out).mono ?_; rintro _ wt29 ⟨rfl, HQ⟩; refine ⟨_, rfl, ?_⟩; replace HS := HS.call HQ; clear HQ; (try clear F); replace HS : Hp noFP w _ [.box g1 [.string a0.f0, .int .i64 a0.f1, .int .i64 a0.f2, .int .i64 a0.f3, .int .i64 a0.f4, .int .i64 a0.f5, .slice Ap0 a0.f6.length cp0, .string a0.f7] 49] := HS; have F := HS.boxes; simp only [boxFacts, and_true] at F; (try simp only [c31])))
         go_ret
         exact ⟨rfl, HS.pick [] (by decide) (by rfl)⟩
     · replace H := zneg c28 H
       have c28a := beq_eq_false_iff_ne.mpr c28
       have c28b := bne_iff_ne.mpr c28
       clear c28
       obtain rfl := zsome H
       go_wp2
       go_ret
       exact ⟨rfl, HS.pick [] (by decide) (by rfl)⟩
/-! ### spec_ReplyText: function 29 -/
def spec_ReplyText.f (k : Nat) (a0 : S49) : Option (ByteArray × Bool) := ((spec_ReplyOk.f k a0).bind fun t3 => (if t3 = true then ((spec_l15Item.f k a0).bind fun t101001 => ((spec_l09Bytes.f a0.f7).bind fun t104001 => ((spec_ItemText.f k (⟨48, (⟨#[]⟩ : ByteArray), ([t101001, t104001] : List S107)⟩ : S107)).bind fun t107001 => (some (t107001.1, t107001.2))))) else (some ((⟨#[]⟩ : ByteArray), false))))
def spec_ReplyText.T3 : Bool × List (List Nat × List Nat) := (true, [([], []), ([0], [0]), ([], []), ([2], [2]), ([3, 1], [3]), ([1, 4], [1, 4]), ([5], [5]), ([6, 4], [6]), ([7], [7]), ([7], [7]), ([8, 7, 0, 1, 2, 3, 4, 5, 6, 7, 8, 9], [8]), ([9, 10, 0, 1, 2, 3, 4, 5, 6, 7, 8, 9, 10], [9])])
theorem spec_ReplyText.tT3 : rtab .any (opsOf Try.f29 3) = spec_ReplyText.T3 := by kernel_rfl
set_option maxHeartbeats 16000000 in
theorem spec_ReplyText.calls {k : Nat} {a0 : S49} {Ap0 : Option Addr} {np0 cp0 : Nat} {r1 : ByteArray} {r2 : Bool} {w : World} (h : spec_ReplyText.f k a0 = some (r1, r2)) (gp0 : k171.C w Ap0 np0 a0.f6) (lp0 : np0 ≤ cp0) :
    Calls Try.prog 29 #[.agg #[.string a0.f0, .int .i64 a0.f1, .int .i64 a0.f2, .int .i64 a0.f3, .int .i64 a0.f4, .int .i64 a0.f5, .slice Ap0 np0 cp0, .string a0.f7]] w (fun e w' => e = .returned (.tuple #[.string r1, .bool r2]) ∧ Hp noFP w w' []) := by
 obtain rfl := C_len gp0
 have HS := Hp.start w
 have H := Aside0.mk h
 clear h
 unfold spec_ReplyText.f at H
 go_enter Try.func29, Try.ntmps29
 obtain ⟨t3, ht3, H⟩ := zbind H
 go_upto_if 6 with (first | ((with_reducible refine gate_dst (N := 1) rfl ?_); refine ev_box rfl HS (by first | (go_simp; done) | (go_simp; rfl)) rfl ?_; clear HS; (try clear F); intro g1 w1 HS; replace HS : Hp noFP w _ [.box g1 [.string a0.f0, .int .i64 a0.f1, .int .i64 a0.f2, .int .i64 a0.f3, .int .i64 a0.f4, .int .i64 a0.f5, .slice Ap0 a0.f6.length cp0, .string a0.f7] 49] := HS; have F := HS.boxes; simp only [boxFacts, and_true] at F) | ((with_reducible refine gate_dst (N := 5) rfl ?_); refine ev_call rfl Try.func70 (by kernel_rfl) rfl #[.agg #[.string a0.f0, .int .i64 a0.f1, .int .i64 a0.f2, .int .i64 a0.f3, .int .i64 a0.f4, .int .i64 a0.f5, .slice Ap0 a0.f6.length cp0, .string a0.f7]] rfl (by simp only [List.map_toArray, List.map_cons, List.map_nil]; rfl) ?_; refine (spec_ReplyOk.calls ht3.out (HS.ro gp0) lp0).mono ?_; rintro _ wt3 ⟨rfl, HQ⟩; refine ⟨_, rfl, ?_⟩; replace HS := HS.call HQ; clear HQ; (try clear F); replace HS : Hp noFP w _ [.box g1 [.string a0.f0, .int .i64 a0.f1, .int .i64 a0.f2, .int .i64 a0.f3, .int .i64 a0.f4, .int .i64 a0.f5, .slice Ap0 a0.f6.length cp0, .string a0.f7] 49] := HS; have F := HS.boxes; simp only [boxFacts, and_true] at F))
 by_cases c5 : t3 = true
 · replace H := zpos c5 H
   (try simp only [c5, decide_true, decide_false, Bool.not_true, Bool.not_false])
   (try go_wp2)
   obtain ⟨t101001, ht101001, H⟩ := zbind H
   obtain ⟨t104001, ht104001, H⟩ := zbind H
   obtain ⟨t107001, ht107001, H⟩ := zbind H
   refine dr_start [] HS #[false, false, false, false, false, false, false, false, false, false, false, false] (by kernel_rfl) rfl rfl spec_ReplyText.tT3 (fun w7 HT HS HH => ?_)
   (try clear F)
   refine drq_of [(0, some 7), (2, some 9), (3, some 10)] ?_
   repeat (first | (refine drq_pure HT (v := ?_) (a' := ?_) rfl rfl (by kernel_rfl) (fun _ _ _ h => h) (.inl ⟨by rfl, ?_⟩) ?_ ?_; rotate_left; (intro w'; go_simp; with_reducible rfl); rotate_left; (simp only [Act.put, List.setIfInBounds_toArray, List.set_cons_zero, List.set_cons_succ, i64_w, i32_w]; rfl)) | (refine drq_take HT HH (v := ?_) (a' := ?_) rfl rfl (by kernel_rfl) (fun _ _ _ h => h) (.inl ⟨by rfl, ?_⟩) ?_ ?_; rotate_left; (rintro w' ⟨rs', HS'⟩; have F := HS'.boxes; simp only [boxFacts, List.cons_append, List.nil_append, and_true] at F; go_simp; with_reducible rfl); rotate_left; (simp only [Act.put, List.setIfInBounds_toArray, List.set_cons_zero, List.set_cons_succ, i64_w, i32_w]; rfl)))
   refine drq_end ?_
   refine dr_one 1 HT rfl (by kernel_rfl) (by decide) (fun K hK => ?_)
   refine goes_ Try.func65 (by kernel_rfl) rfl #[.agg #[.string a0.f0, .int .i64 a0.f1, .int .i64 a0.f2, .int .i64 a0.f3, .int .i64 a0.f4, .int .i64 a0.f5, .slice Ap0 a0.f6.length cp0, .string a0.f7]] (by rfl) rfl rfl (by simp only [List.map_toArray, List.map_cons, List.map_nil]; rfl) ?_; refine (spec_l15Item.calls ht101001.out (HS.ro gp0) lp0).mono ?_; rintro _ wt101001 ⟨v101002, rfl, HQ⟩; refine ⟨_, rfl, ?_⟩; replace HS := HS.call HQ; clear HQ; (try clear F); obtain ⟨B101002, d101002, rfl, m101002⟩ := HS.form 1 rfl
   replace HS : Hp noFP w _ [.box g1 [.string a0.f0, .int .i64 a0.f1, .int .i64 a0.f2, .int .i64 a0.f3, .int .i64 a0.f4, .int .i64 a0.f5, .slice Ap0 a0.f6.length cp0, .string a0.f7] 49, .own (Zd.slice 107 q107) t101001.f2 [.slice B101002 t101001.f2.length d101002]] := HS
   have F := HS.boxes; simp only [boxFacts, and_true] at F
   refine hK.out _ _ ⟨_, HS⟩ (fun HH => ?_)
   clear hK K
   refine norm_ (a' := ?_) ?_ ?_
   rotate_left
   · show Act.put _ (some 8) _ = _; simp only [Act.put, List.setIfInBounds_toArray, List.set_cons_zero, List.set_cons_succ, i64_w, i32_w, c5]; rfl
   refine dr_one 4 HT rfl (by kernel_rfl) (by decide) (fun K hK => ?_)
   refine goes_ Try.func71 (by kernel_rfl) rfl #[.string a0.f7] (by rfl) rfl rfl (by simp only [List.map_toArray, List.map_cons, List.map_nil]; rfl) ?_; refine (spec_l09Bytes.calls ht104001.out).mono ?_; rintro _ wt104001 ⟨v104002, rfl, HQ⟩; refine ⟨_, rfl, ?_⟩; replace HS := HS.call HQ; clear HQ; (try clear F); obtain ⟨B104002, d104002, rfl, m104002⟩ := HS.form 2 rfl
   replace HS : Hp noFP w _ [.box g1 [.string a0.f0, .int .i64 a0.f1, .int .i64 a0.f2, .int .i64 a0.f3, .int .i64 a0.f4, .int .i64 a0.f5, .slice Ap0 a0.f6.length cp0, .string a0.f7] 49, .own (Zd.slice 107 q107) t101001.f2 [.slice B101002 t101001.f2.length d101002], .own (Zd.slice 107 q107) t104001.f2 [.slice B104002 t104001.f2.length d104002]] := HS
   have F := HS.boxes; simp only [boxFacts, and_true] at F
   refine hK.out _ _ ⟨_, HS⟩ (fun HH => ?_)
   clear hK K
   refine norm_ (a' := ?_) ?_ ?_
   rotate_left
   · show Act.put _ (some 11) _ = _; simp only [Act.put, List.setIfInBounds_toArray, List.set_cons_zero, List.set_cons_succ, i64_w, i32_w, c5]; rfl
   refine dr_one 5 HT rfl (by kernel_rfl) (by decide) (fun K hK => ?_)
   refine if_wp (by rfl) ?_; refine wp_lit q107 [1, 2] ([t101001, t104001] : List S107) ([.int .i64 t101001.f0, .string t101001.f1, .slice B101002 t101001.f2.length d101002] ++ ([.int .i64 t104001.f0, .string t104001.f1, .slice B104002 t104001.f2.length d104002] ++ [])) HS (by first | (go_simp; done) | (go_simp; rfl)) rfl rfl (Nat.le_of_ble_eq_true rfl) (MadeL.cons (js1 := [1]) (c := [.int .i64 t101001.f0, .string t101001.f1, .slice B101002 t101001.f2.length d101002]) rfl (fun S hd hh => q107_pack (x := t101001) hd (hh 1 (.own (Zd.slice 107 q107) t101001.f2 [.slice B101002 t101001.f2.length d101002]) rfl) (by decide)) (MadeL.cons (js1 := [2]) (c := [.int .i64 t104001.f0, .string t104001.f1, .slice B104002 t104001.f2.length d104002]) rfl (fun S hd hh => q107_pack (x := t104001) hd (hh 2 (.own (Zd.slice 107 q107) t104001.f2 [.slice B104002 t104001.f2.length d104002]) rfl) (by decide)) MadeL.nil (by decide)) (by decide)) ?_; clear HS; (try clear F); intro v105001 w105001 HS; obtain ⟨B105001, d105001, rfl, m105001⟩ := HS.formn 2 3 rfl rfl
   replace HS : Hp noFP w _ [.box g1 [.string a0.f0, .int .i64 a0.f1, .int .i64 a0.f2, .int .i64 a0.f3, .int .i64 a0.f4, .int .i64 a0.f5, .slice Ap0 a0.f6.length cp0, .string a0.f7] 49, .emp, .emp, .own (Zd.slice 107 q107) ([t101001, t104001] : List S107) [.slice B105001 2 d105001]] := HS
   have F := HS.boxes; simp only [boxFacts, and_true] at F
   refine hK.out _ _ ⟨_, HS⟩ (fun HH => ?_)
   clear hK K
   refine norm_ (a' := ?_) ?_ ?_
   rotate_left
   · show Act.put _ (some 12) _ = _; simp only [Act.put, List.setIfInBounds_toArray, List.set_cons_zero, List.set_cons_succ, i64_w, i32_w, c5]; rfl
   refine drq_of [(6, some 13)] ?_
   repeat (first | (refine drq_pure HT (v := ?_) (a' := ?_) rfl rfl (by kernel_rfl) (fun _ _ _ h => h) (.inl ⟨by rfl, ?_⟩) ?_ ?_; rotate_left; (intro w'; go_simp; with_reducible rfl); rotate_left; (simp only [Act.put, List.setIfInBounds_toArray, List.set_cons_zero, List.set_cons_succ, i64_w, i32_w]; rfl)))
   refine drq_end ?_
   refine dr_one 7 HT rfl (by kernel_rfl) (by decide) (fun K hK => ?_)
   refine goes_ Try.func64 (by kernel_rfl) rfl #[.agg #[.int .i64 48, .string (⟨#[]⟩ : ByteArray), .slice B105001 2 d105001]] (by rfl) rfl rfl (by simp only [List.map_toArray, List.map_cons, List.map_nil]; rfl) ?_; refine (spec_ItemText.calls ht107001.out (HS.rd 3 rfl) m105001).mono ?_; rintro _ wt107001 ⟨rfl, HQ⟩; refine ⟨_, rfl, ?_⟩; replace HS := HS.call HQ; clear HQ; (try clear F)
   replace HS : Hp noFP w _ [.box g1 [.string a0.f0, .int .i64 a0.f1, .int .i64 a0.f2, .int .i64 a0.f3, .int .i64 a0.f4, .int .i64 a0.f5, .slice Ap0 a0.f6.length cp0, .string a0.f7] 49, .emp, .emp, .own (Zd.slice 107 q107) ([t101001, t104001] : List S107) [.slice B105001 2 d105001]] := HS
   have F := HS.boxes; simp only [boxFacts, and_true] at F
   refine hK.out _ _ ⟨_, HS⟩ (fun HH => ?_)
   clear hK K
   refine norm_ (a' := ?_) ?_ ?_
   rotate_left
   · show Act.put _ (some 14) _ = _; simp only [Act.put, List.setIfInBounds_toArray, List.set_cons_zero, List.set_cons_succ, i64_w, i32_w, c5]; rfl
   refine drq_of [(8, some 15), (9, some 16), (10, some 2), (11, some 3)] ?_
   repeat (first | (refine drq_pure HT (v := ?_) (a' := ?_) rfl rfl (by kernel_rfl) (fun _ _ _ h => h) (.inl ⟨by rfl, ?_⟩) ?_ ?_; rotate_left; (intro w'; go_simp; with_reducible rfl); rotate_left; (simp only [Act.put, List.setIfInBounds_toArray, List.set_cons_zero, List.set_cons_succ, i64_w, i32_w]; rfl)))
   refine drq_end ?_
   refine done_ (done_of HT.out (by kernel_rfl)) ?_
   obtain ⟨rfl, rfl⟩ := zsome2 H
   go_wp2
   exact bodyPost_ret (results_list (rs := [.tmp 2, .tmp 3]) rfl (by simp) (.tmp (.tmp .nil))) rfl ⟨rfl, HS.pick [] (by decide) (by rfl)⟩
 · replace H := zneg c5 H
   replace c5 := eq_false_of_ne_true c5
   (try simp only [c5, decide_true, decide_false, Bool.not_true, Bool.not_false])
   obtain ⟨rfl, rfl⟩ := zsome2 H
   go_wp2
   exact bodyPost_ret (results_list (rs := [.tmp 2, .tmp 3]) rfl (by simp) (.tmp (.tmp .nil))) rfl ⟨rfl, HS.pick [] (by decide) (by rfl)⟩
/-! ### impl_within: function 132 -/
def impl_within.f (a0 : Int) (a1 : Int) (a2 : Int) : Option (Bool) := (if a1 ≤ a0 then (some (decide (a0 ≤ a2))) else (some false))
set_option maxHeartbeats 16000000 in
theorem impl_within.calls {a0 : Int} {a1 : Int} {a2 : Int} {r : Bool} {w : World} (h : impl_within.f a0 a1 a2 = some r) :
    Calls Try.prog 132 #[.int .i64 a0, .int .i64 a1, .int .i64 a2] w (fun e w' => e = .returned (.bool r) ∧ Hp noFP w w' []) := by
 have HS := Hp.start w
 have H := Aside0.mk h
 clear h
 unfold impl_within.f at H
 go_enter Try.func132, Try.ntmps132
 by_cases c1 : a1 ≤ a0
 · replace H := zpos c1 H
   replace c1 := eq_true c1
   obtain rfl := zsome H
   go_wp2
   go_ret
   exact ⟨rfl, HS.pick [] (by decide) (by rfl)⟩
 · replace H := zneg c1 H
   replace c1 := eq_false c1
   obtain rfl := zsome H
   go_wp2
   go_ret
   exact ⟨rfl, HS.pick [] (by decide) (by rfl)⟩
/-! ### impl_bytesIn: function 178 -/
def impl_bytesIn.l0 : Nat → Int → ByteArray → Int → Int → Option (Bool)
  | 0, _, _, _, _ => none
  | k + 1, x4, a0, a1, a2 => (if x4 < (a0.size : Int) then (if 0 ≤ x4 then (if x4 < (a0.size : Int) then ((impl_within.f (wrap64 (bt a0 x4)) a1 a2).bind fun t10 => (if t10 = true then (impl_bytesIn.l0 k (wrap64 (x4 + 1)) a0 a1 a2) else (some false))) else none) else none) else (some true))
def impl_bytesIn.f (k : Nat) (a0 : ByteArray) (a1 : Int) (a2 : Int) : Option (Bool) := (impl_bytesIn.l0 k 0 a0 a1 a2)
set_option maxHeartbeats 16000000 in
theorem impl_bytesIn.calls {k : Nat} {a0 : ByteArray} {a1 : Int} {a2 : Int} {r : Bool} {w : World} (h : impl_bytesIn.f k a0 a1 a2 = some r) :
    Calls Try.prog 178 #[.string a0, .int .i64 a1, .int .i64 a2] w (fun e w' => e = .returned (.bool r) ∧ Hp noFP w w' []) := by
 have HS := Hp.start w
 have H := Aside0.mk h
 clear h
 unfold impl_bytesIn.f at H
 go_enter Try.func178, Try.ntmps178
 go_wp2
 go_loopg [7] k (fun kq v_7 w' => ∃ (x4 : Int), v_7 = .int .i64 x4 ∧ Aside0 (impl_bytesIn.l0 kq x4 a0 a1 a2 = some r) ∧ Aside0 (kq ≤ k) ∧ Hp noFP w w' [])
 case atStart => exact ⟨_, rfl, H, ⟨Nat.le_refl _⟩, HS⟩
 case round =>
  clear HS H; (try clear F)
  obtain ⟨x4, rfl, H, HKk3, HS⟩ := hrel
  cases gk with
  | zero => exact absurd H.out (by simp [impl_bytesIn.l0])
  | succ k3 =>
   simp only [impl_bytesIn.l0] at H
   by_cases c6 : x4 < (a0.size : Int)
   · replace H := zpos c6 H
     replace c6 := eq_true c6
     by_cases c7 : 0 ≤ x4
     case neg => exact zno c7 H
     replace H := zpos c7 H
     replace c7 := eq_true c7
     by_cases c8 : x4 < (a0.size : Int)
     case neg => exact zno c8 H
     replace H := zpos c8 H
     replace c8 := eq_true c8
     have hx9 := bt_at a0 x4
     obtain ⟨t10, ht10, H⟩ := zbind H
     go_upto_if 21 with (first | ((with_reducible refine gate_dst (N := 20) rfl ?_); refine ev_call rfl Try.func132 (by kernel_rfl) rfl #[.int .i64 (wrap64 (bt a0 x4)), .int .i64 a1, .int .i64 a2] rfl (by simp only [List.map_toArray, List.map_cons, List.map_nil]; rfl) ?_; refine (impl_within.calls ht10.out).mono ?_; rintro _ wt10 ⟨rfl, HQ⟩; refine ⟨_, rfl, ?_⟩; replace HS := HS.call HQ; clear HQ; (try clear F); replace HS : Hp noFP w _ [] := HS))
     by_cases c12 : t10 = true
     · replace H := zpos c12 H
       (try simp only [c12, decide_true, decide_false, Bool.not_true, Bool.not_false])
       go_wp2
       go_roundg k3
       case measure => have := HKk3.out; omega
       case rel => exact ⟨_, rfl, H, ⟨by have := HKk3.out; omega⟩, HS.pick [] (by decide) (by rfl)⟩
     · replace H := zneg c12 H
       replace c12 := eq_false_of_ne_true c12
       (try simp only [c12, decide_true, decide_false, Bool.not_true, Bool.not_false])
       obtain rfl := zsome H
       go_wp2
       go_ret
       exact ⟨rfl, HS.pick [] (by decide) (by rfl)⟩
   · replace H := zneg c6 H
     replace c6 := eq_false c6
     obtain rfl := zsome H
     go_wp2
     go_ret
     exact ⟨rfl, HS.pick [] (by decide) (by rfl)⟩
end Go.Proofs.Ytdcjcanobiohnaa.F
