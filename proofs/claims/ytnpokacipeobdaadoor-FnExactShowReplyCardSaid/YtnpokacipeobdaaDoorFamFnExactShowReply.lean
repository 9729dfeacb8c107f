/- What the law's own helpers do: they measure, copy, compare, mark. Plain lemmas, no condition. -/
import Derived.Test.YtnpokacipeobdaaDoorSaidFnExactShowReply
import Derived.Test.YtnpokacipeobdaaDoorZMark
namespace Go.Proofs.YtnpokacipeobdaaDoor.FamFnExactShowReply
open Go.RowKit Go.Proofs.YtnpokacipeobdaaDoorW.PrintWords Go.Proofs.YtnpokacipeobdaaDoorW.PrintLast Go.Proofs.YtnpokacipeobdaaDoor.ZOpen Go.Proofs.YtnpokacipeobdaaDoor.Z Go.Proofs.YtnpokacipeobdaaDoor.F
open Go.Proofs.YtnpokacipeobdaaDoor.SaidFnExactShowReply Go.Proofs.YtnpokacipeobdaaDoor.ZP
set_option linter.unusedVariables false
set_option linter.unusedSimpArgs false
set_option maxRecDepth 100000

theorem rdS (x : List ByteArray) (i : Nat) (h : i < x.length) : rdOf ByteArray.empty x (i : Int) = x[i] := by simp [rdOf, h]
theorem szw_47 (l : (List ByteArray)) (hl : okList okStr l) (b : Int) (h0 : 0 ≤ b) (h1 : b ≤ 1048576) (k : Nat) (hk : 1048577 ≤ k) : ∃ n, laws_szStringS.f k l b = some n ∧ n ≤ b ∧ (0 ≤ n → (l.length ≤ 1048576 ∧ ∀ e ∈ l, e.size ≤ 1048576) ∧ n + ((((l.length + (l.map ByteArray.size).sum) : Nat) : Int) : Int) = b) := by
  have hll : l.length ≤ maxLen := hl.1
  have hm : maxLen = 9223372036854775807 := rfl
  have e : wrap64 (b - (l.length : Int)) = b - (l.length : Int) := by unfold wrap64; omega
  unfold laws_szStringS.f
  rw [e]
  by_cases c : b - (l.length : Int) < 0
  · rw [if_pos c]; exact ⟨-1, rfl, by omega, fun h => by omega⟩
  rw [if_neg c]
  obtain ⟨n, n1, n2, n3⟩ := sz_loop_w laws_szStringS.l0 (rdOf ByteArray.empty) (fun _ e b => some (wrap64 (b - (e.size : Int)))) (fun e => e.size ≤ 1048576) ByteArray.size l 0 (by omega) (rdS l) (fun k b i => by rw [laws_szStringS.l0]; rfl) (fun k e b _ he g0 g1 => by
      have h2 : e.size ≤ maxLen := hl.2 e he
      exact ⟨_, rfl, by unfold wrap64; omega, fun h => ⟨by unfold wrap64 at h; omega, by unfold wrap64; omega⟩⟩) k (b - (l.length : Int)) 0 (by omega) (by omega) (by omega) (by omega)
  refine ⟨n, n1, by omega, fun h => ⟨⟨by omega, fun a ha => ?_⟩, ?_⟩⟩
  · obtain ⟨j, hj, rfl⟩ := List.getElem_of_mem ha
    exact (n3 h).1 j hj (by omega)
  · have w := (n3 h).2
    rw [List.drop_zero] at w
    omega
theorem sz_47 (l : (List ByteArray)) (hl : okList okStr l) (b : Int) (h0 : 0 ≤ b) (h1 : b ≤ 1048576) (k : Nat) (hk : 1048577 ≤ k) : ∃ n, laws_szStringS.f k l b = some n ∧ n ≤ b ∧ (0 ≤ n → (l.length ≤ 1048576 ∧ ∀ e ∈ l, e.size ≤ 1048576)) := by
  obtain ⟨n, g1, g2, g3⟩ := szw_47 l hl b h0 h1 k hk
  exact ⟨n, g1, g2, fun h => (g3 h).1⟩
def sm112 (x : S112) : Prop := True ∧ True ∧ (x.f2.length ≤ 1048576 ∧ ∀ e ∈ x.f2, e.size ≤ 1048576) ∧ (x.f3.length ≤ 1048576 ∧ ∀ e ∈ x.f3, e.size ≤ 1048576) ∧ True
def wt112 (x : S112) : Nat := (x.f2.length + (x.f2.map ByteArray.size).sum) + (x.f3.length + (x.f3.map ByteArray.size).sum)
theorem szw_73 (x : S112) (hx : ok112 x) (b : Int) (h0 : 0 ≤ b) (h1 : b ≤ 1048576) (k : Nat) (hk : 1048577 ≤ k) : ∃ n, laws_szAnswer.f k x b = some n ∧ n ≤ b ∧ (0 ≤ n → sm112 x ∧ n + (wt112 x : Int) = b) := by
  have hm : maxLen = 9223372036854775807 := rfl
  unfold laws_szAnswer.f
  obtain ⟨n2, e2, b2, p2⟩ := szw_47 x.f2 (hx.2.2.1) b (by omega) (by omega) k (by omega)
  rw [e2, Option.bind_some]
  by_cases c2 : n2 < 0
  · rw [if_pos c2]; exact ⟨-1, rfl, by omega, fun h => by omega⟩
  rw [if_neg c2]
  obtain ⟨n3, e3, b3, p3⟩ := szw_47 x.f3 (hx.2.2.2) n2 (by omega) (by omega) k (by omega)
  rw [e3, Option.bind_some]
  by_cases c3 : n3 < 0
  · rw [if_pos c3]; exact ⟨-1, rfl, by omega, fun h => by omega⟩
  rw [if_neg c3]
  exact ⟨n3, rfl, by omega, fun h => ⟨⟨trivial, trivial, (p2 (by omega)).1, (p3 (by omega)).1, trivial⟩, by have w2 := (p2 (by omega)).2; have w3 := (p3 (by omega)).2; unfold wt112; omega⟩⟩
theorem sz_73 (x : S112) (hx : ok112 x) (b : Int) (h0 : 0 ≤ b) (h1 : b ≤ 1048576) (k : Nat) (hk : 1048577 ≤ k) : ∃ n, laws_szAnswer.f k x b = some n ∧ n ≤ b ∧ (0 ≤ n → sm112 x) := by
  obtain ⟨n, g1, g2, g3⟩ := szw_73 x hx b h0 h1 k hk
  exact ⟨n, g1, g2, fun h => (g3 h).1⟩
theorem rd112 (x : List S112) (i : Nat) (h : i < x.length) : rd_T112 x (i : Int) = x[i] := by simp [rd_T112, h]
theorem szw_39 (l : (List S112)) (hl : okList ok112 l) (b : Int) (h0 : 0 ≤ b) (h1 : b ≤ 1048576) (k : Nat) (hk : 2097154 ≤ k) : ∃ n, laws_szAnswerS.f k l b = some n ∧ n ≤ b ∧ (0 ≤ n → (l.length ≤ 1048576 ∧ ∀ e ∈ l, sm112 e) ∧ n + ((((l.length + (l.map wt112).sum) : Nat) : Int) : Int) = b) := by
  have hll : l.length ≤ maxLen := hl.1
  have hm : maxLen = 9223372036854775807 := rfl
  have e : wrap64 (b - (l.length : Int)) = b - (l.length : Int) := by unfold wrap64; omega
  unfold laws_szAnswerS.f
  rw [e]
  by_cases c : b - (l.length : Int) < 0
  · rw [if_pos c]; exact ⟨-1, rfl, by omega, fun h => by omega⟩
  rw [if_neg c]
  obtain ⟨n, n1, n2, n3⟩ := sz_loop_w laws_szAnswerS.l0 rd_T112 (fun k e b => laws_szAnswer.f k e b) sm112 wt112 l 1048577 (by omega) (rd112 l) (fun k b i => by rw [laws_szAnswerS.l0]) (fun k e b hk he g0 g1 => szw_73 e (hl.2 e he) b g0 g1 k (by omega)) k (b - (l.length : Int)) 0 (by omega) (by omega) (by omega) (by omega)
  refine ⟨n, n1, by omega, fun h => ⟨⟨by omega, fun a ha => ?_⟩, ?_⟩⟩
  · obtain ⟨j, hj, rfl⟩ := List.getElem_of_mem ha
    exact (n3 h).1 j hj (by omega)
  · have w := (n3 h).2
    rw [List.drop_zero] at w
    omega
theorem sz_39 (l : (List S112)) (hl : okList ok112 l) (b : Int) (h0 : 0 ≤ b) (h1 : b ≤ 1048576) (k : Nat) (hk : 2097154 ≤ k) : ∃ n, laws_szAnswerS.f k l b = some n ∧ n ≤ b ∧ (0 ≤ n → (l.length ≤ 1048576 ∧ ∀ e ∈ l, sm112 e)) := by
  obtain ⟨n, g1, g2, g3⟩ := szw_39 l hl b h0 h1 k hk
  exact ⟨n, g1, g2, fun h => (g3 h).1⟩
def sm35 (x : S35) : Prop := x.f0.size ≤ 1048576 ∧ True ∧ True ∧ True ∧ True ∧ True ∧ (x.f6.length ≤ 1048576 ∧ ∀ e ∈ x.f6, sm112 e) ∧ x.f7.size ≤ 1048576 ∧ True
def wt35 (x : S35) : Nat := x.f0.size + (x.f6.length + (x.f6.map wt112).sum) + x.f7.size
theorem szw_13 (x : S35) (hx : ok35 x) (b : Int) (h0 : 0 ≤ b) (h1 : b ≤ 1048576) (k : Nat) (hk : 2097154 ≤ k) : ∃ n, laws_szReply.f k x b = some n ∧ n ≤ b ∧ (0 ≤ n → sm35 x ∧ n + (wt35 x : Int) = b) := by
  have hm : maxLen = 9223372036854775807 := rfl
  unfold laws_szReply.f
  have s0 : x.f0.size ≤ maxLen := hx.1
  have e0 : wrap64 (b - (x.f0.size : Int)) = b - (x.f0.size : Int) := by unfold wrap64; omega
  rw [e0]
  by_cases c0 : b - (x.f0.size : Int) < 0
  · rw [if_pos c0]; exact ⟨-1, rfl, by omega, fun h => by omega⟩
  rw [if_neg c0]
  obtain ⟨n6, e6, b6, p6⟩ := szw_39 x.f6 (hx.2.2.2.2.2.2.1) (b - (x.f0.size : Int)) (by omega) (by omega) k (by omega)
  rw [e6, Option.bind_some]
  by_cases c6 : n6 < 0
  · rw [if_pos c6]; exact ⟨-1, rfl, by omega, fun h => by omega⟩
  rw [if_neg c6]
  have s7 : x.f7.size ≤ maxLen := hx.2.2.2.2.2.2.2
  have e7 : wrap64 (n6 - (x.f7.size : Int)) = n6 - (x.f7.size : Int) := by unfold wrap64; omega
  rw [e7]
  by_cases c7 : n6 - (x.f7.size : Int) < 0
  · rw [if_pos c7]; exact ⟨-1, rfl, by omega, fun h => by omega⟩
  rw [if_neg c7]
  exact ⟨(n6 - (x.f7.size : Int)), rfl, by omega, fun h => ⟨⟨(by omega), trivial, trivial, trivial, trivial, trivial, (p6 (by omega)).1, (by omega), trivial⟩, by have w6 := (p6 (by omega)).2; unfold wt35; omega⟩⟩
theorem sz_13 (x : S35) (hx : ok35 x) (b : Int) (h0 : 0 ≤ b) (h1 : b ≤ 1048576) (k : Nat) (hk : 2097154 ≤ k) : ∃ n, laws_szReply.f k x b = some n ∧ n ≤ b ∧ (0 ≤ n → sm35 x) := by
  obtain ⟨n, g1, g2, g3⟩ := szw_13 x hx b h0 h1 k hk
  exact ⟨n, g1, g2, fun h => (g3 h).1⟩
theorem to_51 (x : (List ByteArray)) (h : (x.length ≤ 1048576 ∧ ∀ e ∈ x, e.size ≤ 1048576)) (k : Nat) (hk : 1048577 ≤ k) : laws_toStringS.f k x = some x := by
  have hx := h.1
  unfold laws_toStringS.f
  rw [if_pos (by omega), if_pos (by omega)]
  have := to_loop laws_toStringS.l0 (rdOf ByteArray.empty) (fun _ e => some e) id x 0 hx (rdS x) (fun k y i => by rw [laws_toStringS.l0]; rfl) (fun _ _ _ _ => rfl) k (List.replicate x.length (⟨#[]⟩ : ByteArray)) 0 (by omega) (by simp) rfl (by omega)
  simpa using this
def cv112 (x : S112) : S80 := ⟨x.f0, x.f1, x.f2, x.f3⟩
def sm80 (x : S80) : Prop := True ∧ True ∧ (x.f2.length ≤ 1048576 ∧ ∀ e ∈ x.f2, e.size ≤ 1048576) ∧ (x.f3.length ≤ 1048576 ∧ ∀ e ∈ x.f3, e.size ≤ 1048576) ∧ True
theorem to_75 (x : S112) (h : sm112 x) (k : Nat) (hk : 1048577 ≤ k) : laws_toAnswer.f k x = some (cv112 x) := by
  unfold laws_toAnswer.f
  simp only [to_51 x.f2 h.2.2.1 k (by omega), to_51 x.f3 h.2.2.2.1 k (by omega), Option.bind_some]
  rfl
theorem smcv112 (x : S112) (h : sm112 x) : sm80 (cv112 x) := ⟨h.1, h.2.1, h.2.2.1, h.2.2.2.1, trivial⟩
theorem to_42 (x : (List S112)) (h : (x.length ≤ 1048576 ∧ ∀ e ∈ x, sm112 e)) (k : Nat) (hk : 2097154 ≤ k) : laws_toAnswerS.f k x = some (x.map cv112) := by
  have hx := h.1
  unfold laws_toAnswerS.f
  rw [if_pos (by omega), if_pos (by omega)]
  have := to_loop laws_toAnswerS.l0 rd_T112 (fun k e => laws_toAnswer.f k e) cv112 x 1048577 hx (rd112 x) (fun k y i => by rw [laws_toAnswerS.l0]) (fun k e hk he => to_75 e (h.2 e he) k (by omega)) k (List.replicate x.length z80) 0 (by omega) (by simp) rfl (by omega)
  simpa using this
def cv35 (x : S35) : S40 := ⟨x.f0, x.f1, x.f2, x.f3, x.f4, x.f5, (x.f6.map cv112), x.f7⟩
def sm40 (x : S40) : Prop := x.f0.size ≤ 1048576 ∧ True ∧ True ∧ True ∧ True ∧ True ∧ (x.f6.length ≤ 1048576 ∧ ∀ e ∈ x.f6, sm80 e) ∧ x.f7.size ≤ 1048576 ∧ True
theorem to_15 (x : S35) (h : sm35 x) (k : Nat) (hk : 2097154 ≤ k) : laws_toReply.f k x = some (cv35 x) := by
  unfold laws_toReply.f
  simp only [to_42 x.f6 h.2.2.2.2.2.2.1 k (by omega), Option.bind_some]
  rfl
theorem smcv35 (x : S35) (h : sm35 x) : sm40 (cv35 x) := ⟨h.1, h.2.1, h.2.2.1, h.2.2.2.1, h.2.2.2.2.1, h.2.2.2.2.2.1, ⟨by show (List.map cv112 _).length ≤ _; rw [List.length_map]; exact h.2.2.2.2.2.2.1.1, fun e he => by
  obtain ⟨a, ha, rfl⟩ := List.mem_map.1 he
  exact smcv112 a (h.2.2.2.2.2.2.1.2 a ha)⟩, h.2.2.2.2.2.2.2.1, trivial⟩
theorem eq_55 (x : (List ByteArray)) (h : (x.length ≤ 1048576 ∧ ∀ e ∈ x, e.size ≤ 1048576)) (k : Nat) (hk : 1048577 ≤ k) : laws_eqStringS.f k x x = some true := by
  have hx := h.1
  unfold laws_eqStringS.f
  rw [if_pos rfl]
  exact eq_loop laws_eqStringS.l0 (rdOf ByteArray.empty) (fun _ _ => some true) x 0 hx (rdS x) (fun k i => by rw [laws_eqStringS.l0]; simp) (fun _ _ _ _ => rfl) k 0 (by omega) (by omega)
theorem eq_77 (x : S80) (h : sm80 x) (k : Nat) (hk : 1048577 ≤ k) : laws_eqAnswer.f k x x = some true := by
  unfold laws_eqAnswer.f
  simp [eq_55 x.f2 h.2.2.1 k (by omega), eq_55 x.f3 h.2.2.2.1 k (by omega)]
theorem rd80 (x : List S80) (i : Nat) (h : i < x.length) : rd_T80 x (i : Int) = x[i] := by simp [rd_T80, h]
theorem eq_45 (x : (List S80)) (h : (x.length ≤ 1048576 ∧ ∀ e ∈ x, sm80 e)) (k : Nat) (hk : 2097154 ≤ k) : laws_eqAnswerS.f k x x = some true := by
  have hx := h.1
  unfold laws_eqAnswerS.f
  rw [if_pos rfl]
  exact eq_loop laws_eqAnswerS.l0 rd_T80 (fun k e => laws_eqAnswer.f k e e) x 1048577 hx (rd80 x) (fun k i => by rw [laws_eqAnswerS.l0]) (fun k e hk he => eq_77 e (h.2 e he) k (by omega)) k 0 (by omega) (by omega)
theorem eq_17 (x : S40) (h : sm40 x) (k : Nat) (hk : 2097154 ≤ k) : laws_eqReply.f k x x = some true := by
  unfold laws_eqReply.f
  simp [eq_45 x.f6 h.2.2.2.2.2.2.1 k (by omega)]
end Go.Proofs.YtnpokacipeobdaaDoor.FamFnExactShowReply
