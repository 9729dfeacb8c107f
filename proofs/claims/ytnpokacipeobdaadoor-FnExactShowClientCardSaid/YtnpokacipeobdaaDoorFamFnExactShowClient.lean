/- What the law's own helpers do: they measure, copy, compare, mark. Plain lemmas, no condition. -/
import Derived.Test.YtnpokacipeobdaaDoorSaidFnExactShowClient
import Derived.Test.YtnpokacipeobdaaDoorZMark
namespace Go.Proofs.YtnpokacipeobdaaDoor.FamFnExactShowClient
open Go.RowKit Go.Proofs.YtnpokacipeobdaaDoorW.PrintWords Go.Proofs.YtnpokacipeobdaaDoorW.PrintLast Go.Proofs.YtnpokacipeobdaaDoor.ZOpen Go.Proofs.YtnpokacipeobdaaDoor.Z Go.Proofs.YtnpokacipeobdaaDoor.F
open Go.Proofs.YtnpokacipeobdaaDoor.SaidFnExactShowClient Go.Proofs.YtnpokacipeobdaaDoor.ZP
set_option linter.unusedVariables false
set_option linter.unusedSimpArgs false
set_option maxRecDepth 100000

theorem rdI (x : List Int) (i : Nat) (h : i < x.length) : rd x (i : Int) = x[i] := by simp [rd, h]
theorem szw_46 (l : (List Int)) (hl : okList (okInt .i64) l) (b : Int) (h0 : 0 ≤ b) (h1 : b ≤ 1048576) (k : Nat) (hk : 0 ≤ k) : ∃ n, laws_szIntS.f l b = some n ∧ n ≤ b ∧ (0 ≤ n → (l.length ≤ 1048576 ∧ ∀ e ∈ l, True) ∧ n + (((l.length : Nat) : Int) : Int) = b) := by
  have hll : l.length ≤ maxLen := hl.1
  have hm : maxLen = 9223372036854775807 := rfl
  have e : wrap64 (b - (l.length : Int)) = b - (l.length : Int) := by unfold wrap64; omega
  unfold laws_szIntS.f
  rw [e]
  by_cases c : b - (l.length : Int) < 0
  · rw [if_pos c]; exact ⟨-1, rfl, by omega, fun h => by omega⟩
  rw [if_neg c]
  exact ⟨_, rfl, by omega, fun h => ⟨⟨by omega, fun e he => trivial⟩, by omega⟩⟩
theorem sz_46 (l : (List Int)) (hl : okList (okInt .i64) l) (b : Int) (h0 : 0 ≤ b) (h1 : b ≤ 1048576) (k : Nat) (hk : 0 ≤ k) : ∃ n, laws_szIntS.f l b = some n ∧ n ≤ b ∧ (0 ≤ n → (l.length ≤ 1048576 ∧ ∀ e ∈ l, True)) := by
  obtain ⟨n, g1, g2, g3⟩ := szw_46 l hl b h0 h1 k hk
  exact ⟨n, g1, g2, fun h => (g3 h).1⟩
def sm126 (x : S126) : Prop := True ∧ True ∧ x.f2.size ≤ 1048576 ∧ True ∧ True
def wt126 (x : S126) : Nat := x.f2.size
theorem szw_90 (x : S126) (hx : ok126 x) (b : Int) (h0 : 0 ≤ b) (h1 : b ≤ 1048576) (k : Nat) (hk : 0 ≤ k) : ∃ n, laws_szWait.f x b = some n ∧ n ≤ b ∧ (0 ≤ n → sm126 x ∧ n + (wt126 x : Int) = b) := by
  have hm : maxLen = 9223372036854775807 := rfl
  unfold laws_szWait.f
  have s2 : x.f2.size ≤ maxLen := hx.2.2.1
  have e2 : wrap64 (b - (x.f2.size : Int)) = b - (x.f2.size : Int) := by unfold wrap64; omega
  rw [e2]
  by_cases c2 : b - (x.f2.size : Int) < 0
  · rw [if_pos c2]; exact ⟨-1, rfl, by omega, fun h => by omega⟩
  rw [if_neg c2]
  exact ⟨(b - (x.f2.size : Int)), rfl, by omega, fun h => ⟨⟨trivial, trivial, (by omega), trivial, trivial⟩, by unfold wt126; omega⟩⟩
theorem sz_90 (x : S126) (hx : ok126 x) (b : Int) (h0 : 0 ≤ b) (h1 : b ≤ 1048576) (k : Nat) (hk : 0 ≤ k) : ∃ n, laws_szWait.f x b = some n ∧ n ≤ b ∧ (0 ≤ n → sm126 x) := by
  obtain ⟨n, g1, g2, g3⟩ := szw_90 x hx b h0 h1 k hk
  exact ⟨n, g1, g2, fun h => (g3 h).1⟩
theorem rd126 (x : List S126) (i : Nat) (h : i < x.length) : rd_T126 x (i : Int) = x[i] := by simp [rd_T126, h]
theorem szw_63 (l : (List S126)) (hl : okList ok126 l) (b : Int) (h0 : 0 ≤ b) (h1 : b ≤ 1048576) (k : Nat) (hk : 1048577 ≤ k) : ∃ n, laws_szWaitS.f k l b = some n ∧ n ≤ b ∧ (0 ≤ n → (l.length ≤ 1048576 ∧ ∀ e ∈ l, sm126 e) ∧ n + ((((l.length + (l.map wt126).sum) : Nat) : Int) : Int) = b) := by
  have hll : l.length ≤ maxLen := hl.1
  have hm : maxLen = 9223372036854775807 := rfl
  have e : wrap64 (b - (l.length : Int)) = b - (l.length : Int) := by unfold wrap64; omega
  unfold laws_szWaitS.f
  rw [e]
  by_cases c : b - (l.length : Int) < 0
  · rw [if_pos c]; exact ⟨-1, rfl, by omega, fun h => by omega⟩
  rw [if_neg c]
  obtain ⟨n, n1, n2, n3⟩ := sz_loop_w laws_szWaitS.l0 rd_T126 (fun k e b => laws_szWait.f e b) sm126 wt126 l 0 (by omega) (rd126 l) (fun k b i => by rw [laws_szWaitS.l0]) (fun k e b hk he g0 g1 => szw_90 e (hl.2 e he) b g0 g1 k (by omega)) k (b - (l.length : Int)) 0 (by omega) (by omega) (by omega) (by omega)
  refine ⟨n, n1, by omega, fun h => ⟨⟨by omega, fun a ha => ?_⟩, ?_⟩⟩
  · obtain ⟨j, hj, rfl⟩ := List.getElem_of_mem ha
    exact (n3 h).1 j hj (by omega)
  · have w := (n3 h).2
    rw [List.drop_zero] at w
    omega
theorem sz_63 (l : (List S126)) (hl : okList ok126 l) (b : Int) (h0 : 0 ≤ b) (h1 : b ≤ 1048576) (k : Nat) (hk : 1048577 ≤ k) : ∃ n, laws_szWaitS.f k l b = some n ∧ n ≤ b ∧ (0 ≤ n → (l.length ≤ 1048576 ∧ ∀ e ∈ l, sm126 e)) := by
  obtain ⟨n, g1, g2, g3⟩ := szw_63 l hl b h0 h1 k hk
  exact ⟨n, g1, g2, fun h => (g3 h).1⟩
theorem rdS (x : List ByteArray) (i : Nat) (h : i < x.length) : rdOf ByteArray.empty x (i : Int) = x[i] := by simp [rdOf, h]
theorem szw_47 (l : (List ByteArray)) (hl : okList okStr l) (b : Int) (h0 : 0 ≤ b) (h1 : b ≤ 1048576) (k : Nat) (hk : 1048577 ≤ k) : ∃ n, laws_szStringS.f k l b = some n ∧ n ≤ b ∧ (0 ≤ n → (l.length ≤ 1048576 ∧ ∀ e ∈ l, e.size ≤ 1048576) ∧ n + ((((l.length + (l.map ByteArray.size).sum) : Nat) : Int) : Int) = b) := by
  have hll : l.length ≤ maxLen := hl.1
  have hm : maxLen = 9223372036854775807 := rfl
  have e : wrap64 (b - (l.length : Int)) = b - (l.length : Int) := by unfold wrap64; omega
  unfold laws_szStringS.f
  rw [e]
  by_cases c : b - (l.length : Int) < 0
  · rw [if_pos c]; exact ⟨-1, rfl, by omega, fun h => by omega⟩
  rw [if_neg c]
  obtain ⟨n, n1, n2, n3⟩ := sz_loop_w laws_szStringS.l0 (rdOf ByteArray.empty) (fun _ e b => some (wrap64 (b - (e.size : Int)))) (fun e => e.size ≤ 1048576) ByteArray.size l 0 (by omega) (rdS l) (fun k b i => by rw [laws_szStringS.l0]; rfl) (fun k e b _ he g0 g1 => by
      have h2 : e.size ≤ maxLen := hl.2 e he
      exact ⟨_, rfl, by unfold wrap64; omega, fun h => ⟨by unfold wrap64 at h; omega, by unfold wrap64; omega⟩⟩) k (b - (l.length : Int)) 0 (by omega) (by omega) (by omega) (by omega)
  refine ⟨n, n1, by omega, fun h => ⟨⟨by omega, fun a ha => ?_⟩, ?_⟩⟩
  · obtain ⟨j, hj, rfl⟩ := List.getElem_of_mem ha
    exact (n3 h).1 j hj (by omega)
  · have w := (n3 h).2
    rw [List.drop_zero] at w
    omega
theorem sz_47 (l : (List ByteArray)) (hl : okList okStr l) (b : Int) (h0 : 0 ≤ b) (h1 : b ≤ 1048576) (k : Nat) (hk : 1048577 ≤ k) : ∃ n, laws_szStringS.f k l b = some n ∧ n ≤ b ∧ (0 ≤ n → (l.length ≤ 1048576 ∧ ∀ e ∈ l, e.size ≤ 1048576)) := by
  obtain ⟨n, g1, g2, g3⟩ := szw_47 l hl b h0 h1 k hk
  exact ⟨n, g1, g2, fun h => (g3 h).1⟩
def sm112 (x : S112) : Prop := True ∧ True ∧ (x.f2.length ≤ 1048576 ∧ ∀ e ∈ x.f2, e.size ≤ 1048576) ∧ (x.f3.length ≤ 1048576 ∧ ∀ e ∈ x.f3, e.size ≤ 1048576) ∧ True
def wt112 (x : S112) : Nat := (x.f2.length + (x.f2.map ByteArray.size).sum) + (x.f3.length + (x.f3.map ByteArray.size).sum)
theorem szw_73 (x : S112) (hx : ok112 x) (b : Int) (h0 : 0 ≤ b) (h1 : b ≤ 1048576) (k : Nat) (hk : 1048577 ≤ k) : ∃ n, laws_szAnswer.f k x b = some n ∧ n ≤ b ∧ (0 ≤ n → sm112 x ∧ n + (wt112 x : Int) = b) := by
  have hm : maxLen = 9223372036854775807 := rfl
  unfold laws_szAnswer.f
  obtain ⟨n2, e2, b2, p2⟩ := szw_47 x.f2 (hx.2.2.1) b (by omega) (by omega) k (by omega)
  rw [e2, Option.bind_some]
  by_cases c2 : n2 < 0
  · rw [if_pos c2]; exact ⟨-1, rfl, by omega, fun h => by omega⟩
  rw [if_neg c2]
  obtain ⟨n3, e3, b3, p3⟩ := szw_47 x.f3 (hx.2.2.2) n2 (by omega) (by omega) k (by omega)
  rw [e3, Option.bind_some]
  by_cases c3 : n3 < 0
  · rw [if_pos c3]; exact ⟨-1, rfl, by omega, fun h => by omega⟩
  rw [if_neg c3]
  exact ⟨n3, rfl, by omega, fun h => ⟨⟨trivial, trivial, (p2 (by omega)).1, (p3 (by omega)).1, trivial⟩, by have w2 := (p2 (by omega)).2; have w3 := (p3 (by omega)).2; unfold wt112; omega⟩⟩
theorem sz_73 (x : S112) (hx : ok112 x) (b : Int) (h0 : 0 ≤ b) (h1 : b ≤ 1048576) (k : Nat) (hk : 1048577 ≤ k) : ∃ n, laws_szAnswer.f k x b = some n ∧ n ≤ b ∧ (0 ≤ n → sm112 x) := by
  obtain ⟨n, g1, g2, g3⟩ := szw_73 x hx b h0 h1 k hk
  exact ⟨n, g1, g2, fun h => (g3 h).1⟩
theorem rd112 (x : List S112) (i : Nat) (h : i < x.length) : rd_T112 x (i : Int) = x[i] := by simp [rd_T112, h]
theorem szw_39 (l : (List S112)) (hl : okList ok112 l) (b : Int) (h0 : 0 ≤ b) (h1 : b ≤ 1048576) (k : Nat) (hk : 2097154 ≤ k) : ∃ n, laws_szAnswerS.f k l b = some n ∧ n ≤ b ∧ (0 ≤ n → (l.length ≤ 1048576 ∧ ∀ e ∈ l, sm112 e) ∧ n + ((((l.length + (l.map wt112).sum) : Nat) : Int) : Int) = b) := by
  have hll : l.length ≤ maxLen := hl.1
  have hm : maxLen = 9223372036854775807 := rfl
  have e : wrap64 (b - (l.length : Int)) = b - (l.length : Int) := by unfold wrap64; omega
  unfold laws_szAnswerS.f
  rw [e]
  by_cases c : b - (l.length : Int) < 0
  · rw [if_pos c]; exact ⟨-1, rfl, by omega, fun h => by omega⟩
  rw [if_neg c]
  obtain ⟨n, n1, n2, n3⟩ := sz_loop_w laws_szAnswerS.l0 rd_T112 (fun k e b => laws_szAnswer.f k e b) sm112 wt112 l 1048577 (by omega) (rd112 l) (fun k b i => by rw [laws_szAnswerS.l0]) (fun k e b hk he g0 g1 => szw_73 e (hl.2 e he) b g0 g1 k (by omega)) k (b - (l.length : Int)) 0 (by omega) (by omega) (by omega) (by omega)
  refine ⟨n, n1, by omega, fun h => ⟨⟨by omega, fun a ha => ?_⟩, ?_⟩⟩
  · obtain ⟨j, hj, rfl⟩ := List.getElem_of_mem ha
    exact (n3 h).1 j hj (by omega)
  · have w := (n3 h).2
    rw [List.drop_zero] at w
    omega
theorem sz_39 (l : (List S112)) (hl : okList ok112 l) (b : Int) (h0 : 0 ≤ b) (h1 : b ≤ 1048576) (k : Nat) (hk : 2097154 ≤ k) : ∃ n, laws_szAnswerS.f k l b = some n ∧ n ≤ b ∧ (0 ≤ n → (l.length ≤ 1048576 ∧ ∀ e ∈ l, sm112 e)) := by
  obtain ⟨n, g1, g2, g3⟩ := szw_39 l hl b h0 h1 k hk
  exact ⟨n, g1, g2, fun h => (g3 h).1⟩
def sm35 (x : S35) : Prop := x.f0.size ≤ 1048576 ∧ True ∧ True ∧ True ∧ True ∧ True ∧ (x.f6.length ≤ 1048576 ∧ ∀ e ∈ x.f6, sm112 e) ∧ x.f7.size ≤ 1048576 ∧ True
def wt35 (x : S35) : Nat := x.f0.size + (x.f6.length + (x.f6.map wt112).sum) + x.f7.size
theorem szw_13 (x : S35) (hx : ok35 x) (b : Int) (h0 : 0 ≤ b) (h1 : b ≤ 1048576) (k : Nat) (hk : 2097154 ≤ k) : ∃ n, laws_szReply.f k x b = some n ∧ n ≤ b ∧ (0 ≤ n → sm35 x ∧ n + (wt35 x : Int) = b) := by
  have hm : maxLen = 9223372036854775807 := rfl
  unfold laws_szReply.f
  have s0 : x.f0.size ≤ maxLen := hx.1
  have e0 : wrap64 (b - (x.f0.size : Int)) = b - (x.f0.size : Int) := by unfold wrap64; omega
  rw [e0]
  by_cases c0 : b - (x.f0.size : Int) < 0
  · rw [if_pos c0]; exact ⟨-1, rfl, by omega, fun h => by omega⟩
  rw [if_neg c0]
  obtain ⟨n6, e6, b6, p6⟩ := szw_39 x.f6 (hx.2.2.2.2.2.2.1) (b - (x.f0.size : Int)) (by omega) (by omega) k (by omega)
  rw [e6, Option.bind_some]
  by_cases c6 : n6 < 0
  · rw [if_pos c6]; exact ⟨-1, rfl, by omega, fun h => by omega⟩
  rw [if_neg c6]
  have s7 : x.f7.size ≤ maxLen := hx.2.2.2.2.2.2.2
  have e7 : wrap64 (n6 - (x.f7.size : Int)) = n6 - (x.f7.size : Int) := by unfold wrap64; omega
  rw [e7]
  by_cases c7 : n6 - (x.f7.size : Int) < 0
  · rw [if_pos c7]; exact ⟨-1, rfl, by omega, fun h => by omega⟩
  rw [if_neg c7]
  exact ⟨(n6 - (x.f7.size : Int)), rfl, by omega, fun h => ⟨⟨(by omega), trivial, trivial, trivial, trivial, trivial, (p6 (by omega)).1, (by omega), trivial⟩, by have w6 := (p6 (by omega)).2; unfold wt35; omega⟩⟩
theorem sz_13 (x : S35) (hx : ok35 x) (b : Int) (h0 : 0 ≤ b) (h1 : b ≤ 1048576) (k : Nat) (hk : 2097154 ≤ k) : ∃ n, laws_szReply.f k x b = some n ∧ n ≤ b ∧ (0 ≤ n → sm35 x) := by
  obtain ⟨n, g1, g2, g3⟩ := szw_13 x hx b h0 h1 k hk
  exact ⟨n, g1, g2, fun h => (g3 h).1⟩
def sm129 (x : S129) : Prop := True ∧ sm35 x.f1 ∧ True
def wt129 (x : S129) : Nat := wt35 x.f1
theorem szw_91 (x : S129) (hx : ok129 x) (b : Int) (h0 : 0 ≤ b) (h1 : b ≤ 1048576) (k : Nat) (hk : 2097154 ≤ k) : ∃ n, laws_szGot.f k x b = some n ∧ n ≤ b ∧ (0 ≤ n → sm129 x ∧ n + (wt129 x : Int) = b) := by
  have hm : maxLen = 9223372036854775807 := rfl
  unfold laws_szGot.f
  obtain ⟨n1, e1, b1, p1⟩ := szw_13 x.f1 (hx.2) b (by omega) (by omega) k (by omega)
  rw [e1, Option.bind_some]
  by_cases c1 : n1 < 0
  · rw [if_pos c1]; exact ⟨-1, rfl, by omega, fun h => by omega⟩
  rw [if_neg c1]
  exact ⟨n1, rfl, by omega, fun h => ⟨⟨trivial, (p1 (by omega)).1, trivial⟩, by have w1 := (p1 (by omega)).2; unfold wt129; omega⟩⟩
theorem sz_91 (x : S129) (hx : ok129 x) (b : Int) (h0 : 0 ≤ b) (h1 : b ≤ 1048576) (k : Nat) (hk : 2097154 ≤ k) : ∃ n, laws_szGot.f k x b = some n ∧ n ≤ b ∧ (0 ≤ n → sm129 x) := by
  obtain ⟨n, g1, g2, g3⟩ := szw_91 x hx b h0 h1 k hk
  exact ⟨n, g1, g2, fun h => (g3 h).1⟩
theorem rd129 (x : List S129) (i : Nat) (h : i < x.length) : rd_T129 x (i : Int) = x[i] := by simp [rd_T129, h]
theorem szw_64 (l : (List S129)) (hl : okList ok129 l) (b : Int) (h0 : 0 ≤ b) (h1 : b ≤ 1048576) (k : Nat) (hk : 3145731 ≤ k) : ∃ n, laws_szGotS.f k l b = some n ∧ n ≤ b ∧ (0 ≤ n → (l.length ≤ 1048576 ∧ ∀ e ∈ l, sm129 e) ∧ n + ((((l.length + (l.map wt129).sum) : Nat) : Int) : Int) = b) := by
  have hll : l.length ≤ maxLen := hl.1
  have hm : maxLen = 9223372036854775807 := rfl
  have e : wrap64 (b - (l.length : Int)) = b - (l.length : Int) := by unfold wrap64; omega
  unfold laws_szGotS.f
  rw [e]
  by_cases c : b - (l.length : Int) < 0
  · rw [if_pos c]; exact ⟨-1, rfl, by omega, fun h => by omega⟩
  rw [if_neg c]
  obtain ⟨n, n1, n2, n3⟩ := sz_loop_w laws_szGotS.l0 rd_T129 (fun k e b => laws_szGot.f k e b) sm129 wt129 l 2097154 (by omega) (rd129 l) (fun k b i => by rw [laws_szGotS.l0]) (fun k e b hk he g0 g1 => szw_91 e (hl.2 e he) b g0 g1 k (by omega)) k (b - (l.length : Int)) 0 (by omega) (by omega) (by omega) (by omega)
  refine ⟨n, n1, by omega, fun h => ⟨⟨by omega, fun a ha => ?_⟩, ?_⟩⟩
  · obtain ⟨j, hj, rfl⟩ := List.getElem_of_mem ha
    exact (n3 h).1 j hj (by omega)
  · have w := (n3 h).2
    rw [List.drop_zero] at w
    omega
theorem sz_64 (l : (List S129)) (hl : okList ok129 l) (b : Int) (h0 : 0 ≤ b) (h1 : b ≤ 1048576) (k : Nat) (hk : 3145731 ≤ k) : ∃ n, laws_szGotS.f k l b = some n ∧ n ≤ b ∧ (0 ≤ n → (l.length ≤ 1048576 ∧ ∀ e ∈ l, sm129 e)) := by
  obtain ⟨n, g1, g2, g3⟩ := szw_64 l hl b h0 h1 k hk
  exact ⟨n, g1, g2, fun h => (g3 h).1⟩
def sm59 (x : S59) : Prop := x.f0.size ≤ 1048576 ∧ True ∧ (x.f2.length ≤ 1048576 ∧ ∀ e ∈ x.f2, sm126 e) ∧ (x.f3.length ≤ 1048576 ∧ ∀ e ∈ x.f3, sm129 e) ∧ (x.f4.length ≤ 1048576 ∧ ∀ e ∈ x.f4, True) ∧ True
def wt59 (x : S59) : Nat := x.f0.size + (x.f2.length + (x.f2.map wt126).sum) + (x.f3.length + (x.f3.map wt129).sum) + x.f4.length
theorem szw_25 (x : S59) (hx : ok59 x) (b : Int) (h0 : 0 ≤ b) (h1 : b ≤ 1048576) (k : Nat) (hk : 3145731 ≤ k) : ∃ n, laws_szClient.f k x b = some n ∧ n ≤ b ∧ (0 ≤ n → sm59 x ∧ n + (wt59 x : Int) = b) := by
  have hm : maxLen = 9223372036854775807 := rfl
  unfold laws_szClient.f
  have s0 : x.f0.size ≤ maxLen := hx.1
  have e0 : wrap64 (b - (x.f0.size : Int)) = b - (x.f0.size : Int) := by unfold wrap64; omega
  rw [e0]
  by_cases c0 : b - (x.f0.size : Int) < 0
  · rw [if_pos c0]; exact ⟨-1, rfl, by omega, fun h => by omega⟩
  rw [if_neg c0]
  obtain ⟨n2, e2, b2, p2⟩ := szw_63 x.f2 (hx.2.2.1) (b - (x.f0.size : Int)) (by omega) (by omega) k (by omega)
  rw [e2, Option.bind_some]
  by_cases c2 : n2 < 0
  · rw [if_pos c2]; exact ⟨-1, rfl, by omega, fun h => by omega⟩
  rw [if_neg c2]
  obtain ⟨n3, e3, b3, p3⟩ := szw_64 x.f3 (hx.2.2.2.1) n2 (by omega) (by omega) k (by omega)
  rw [e3, Option.bind_some]
  by_cases c3 : n3 < 0
  · rw [if_pos c3]; exact ⟨-1, rfl, by omega, fun h => by omega⟩
  rw [if_neg c3]
  obtain ⟨n4, e4, b4, p4⟩ := szw_46 x.f4 (hx.2.2.2.2) n3 (by omega) (by omega) k (by omega)
  rw [e4, Option.bind_some]
  by_cases c4 : n4 < 0
  · rw [if_pos c4]; exact ⟨-1, rfl, by omega, fun h => by omega⟩
  rw [if_neg c4]
  exact ⟨n4, rfl, by omega, fun h => ⟨⟨(by omega), trivial, (p2 (by omega)).1, (p3 (by omega)).1, (p4 (by omega)).1, trivial⟩, by have w2 := (p2 (by omega)).2; have w3 := (p3 (by omega)).2; have w4 := (p4 (by omega)).2; unfold wt59; omega⟩⟩
theorem sz_25 (x : S59) (hx : ok59 x) (b : Int) (h0 : 0 ≤ b) (h1 : b ≤ 1048576) (k : Nat) (hk : 3145731 ≤ k) : ∃ n, laws_szClient.f k x b = some n ∧ n ≤ b ∧ (0 ≤ n → sm59 x) := by
  obtain ⟨n, g1, g2, g3⟩ := szw_25 x hx b h0 h1 k hk
  exact ⟨n, g1, g2, fun h => (g3 h).1⟩
theorem to_50 (x : (List Int)) (h : (x.length ≤ 1048576 ∧ ∀ e ∈ x, True)) (k : Nat) (hk : 1048577 ≤ k) : laws_toIntS.f k x = some x := by
  have hx := h.1
  unfold laws_toIntS.f
  rw [if_pos (by omega), if_pos (by omega)]
  have := to_loop laws_toIntS.l0 rd (fun _ e => some e) id x 0 hx (rdI x) (fun k y i => by rw [laws_toIntS.l0]; rfl) (fun _ _ _ _ => rfl) k (List.replicate x.length (0 : Int)) 0 (by omega) (by simp) rfl (by omega)
  simpa using this
def cv126 (x : S126) : S130 := ⟨x.f0, x.f1, x.f2, x.f3⟩
def sm130 (x : S130) : Prop := True ∧ True ∧ x.f2.size ≤ 1048576 ∧ True ∧ True
theorem to_92 (x : S126) (h : sm126 x) (k : Nat) (hk : 0 ≤ k) : laws_toWait.f x = some (cv126 x) := by
  unfold laws_toWait.f
  rfl
theorem smcv126 (x : S126) (h : sm126 x) : sm130 (cv126 x) := ⟨h.1, h.2.1, h.2.2.1, h.2.2.2.1, trivial⟩
theorem to_65 (x : (List S126)) (h : (x.length ≤ 1048576 ∧ ∀ e ∈ x, sm126 e)) (k : Nat) (hk : 1048577 ≤ k) : laws_toWaitS.f k x = some (x.map cv126) := by
  have hx := h.1
  unfold laws_toWaitS.f
  rw [if_pos (by omega), if_pos (by omega)]
  have := to_loop laws_toWaitS.l0 rd_T126 (fun k e => laws_toWait.f e) cv126 x 0 hx (rd126 x) (fun k y i => by rw [laws_toWaitS.l0]) (fun k e hk he => to_92 e (h.2 e he) k (by omega)) k (List.replicate x.length z130) 0 (by omega) (by simp) rfl (by omega)
  simpa using this
theorem to_51 (x : (List ByteArray)) (h : (x.length ≤ 1048576 ∧ ∀ e ∈ x, e.size ≤ 1048576)) (k : Nat) (hk : 1048577 ≤ k) : laws_toStringS.f k x = some x := by
  have hx := h.1
  unfold laws_toStringS.f
  rw [if_pos (by omega), if_pos (by omega)]
  have := to_loop laws_toStringS.l0 (rdOf ByteArray.empty) (fun _ e => some e) id x 0 hx (rdS x) (fun k y i => by rw [laws_toStringS.l0]; rfl) (fun _ _ _ _ => rfl) k (List.replicate x.length (⟨#[]⟩ : ByteArray)) 0 (by omega) (by simp) rfl (by omega)
  simpa using this
def cv112 (x : S112) : S80 := ⟨x.f0, x.f1, x.f2, x.f3⟩
def sm80 (x : S80) : Prop := True ∧ True ∧ (x.f2.length ≤ 1048576 ∧ ∀ e ∈ x.f2, e.size ≤ 1048576) ∧ (x.f3.length ≤ 1048576 ∧ ∀ e ∈ x.f3, e.size ≤ 1048576) ∧ True
theorem to_75 (x : S112) (h : sm112 x) (k : Nat) (hk : 1048577 ≤ k) : laws_toAnswer.f k x = some (cv112 x) := by
  unfold laws_toAnswer.f
  simp only [to_51 x.f2 h.2.2.1 k (by omega), to_51 x.f3 h.2.2.2.1 k (by omega), Option.bind_some]
  rfl
theorem smcv112 (x : S112) (h : sm112 x) : sm80 (cv112 x) := ⟨h.1, h.2.1, h.2.2.1, h.2.2.2.1, trivial⟩
theorem to_42 (x : (List S112)) (h : (x.length ≤ 1048576 ∧ ∀ e ∈ x, sm112 e)) (k : Nat) (hk : 2097154 ≤ k) : laws_toAnswerS.f k x = some (x.map cv112) := by
  have hx := h.1
  unfold laws_toAnswerS.f
  rw [if_pos (by omega), if_pos (by omega)]
  have := to_loop laws_toAnswerS.l0 rd_T112 (fun k e => laws_toAnswer.f k e) cv112 x 1048577 hx (rd112 x) (fun k y i => by rw [laws_toAnswerS.l0]) (fun k e hk he => to_75 e (h.2 e he) k (by omega)) k (List.replicate x.length z80) 0 (by omega) (by simp) rfl (by omega)
  simpa using this
def cv35 (x : S35) : S40 := ⟨x.f0, x.f1, x.f2, x.f3, x.f4, x.f5, (x.f6.map cv112), x.f7⟩
def sm40 (x : S40) : Prop := x.f0.size ≤ 1048576 ∧ True ∧ True ∧ True ∧ True ∧ True ∧ (x.f6.length ≤ 1048576 ∧ ∀ e ∈ x.f6, sm80 e) ∧ x.f7.size ≤ 1048576 ∧ True
theorem to_15 (x : S35) (h : sm35 x) (k : Nat) (hk : 2097154 ≤ k) : laws_toReply.f k x = some (cv35 x) := by
  unfold laws_toReply.f
  simp only [to_42 x.f6 h.2.2.2.2.2.2.1 k (by omega), Option.bind_some]
  rfl
theorem smcv35 (x : S35) (h : sm35 x) : sm40 (cv35 x) := ⟨h.1, h.2.1, h.2.2.1, h.2.2.2.1, h.2.2.2.2.1, h.2.2.2.2.2.1, ⟨by show (List.map cv112 _).length ≤ _; rw [List.length_map]; exact h.2.2.2.2.2.2.1.1, fun e he => by
  obtain ⟨a, ha, rfl⟩ := List.mem_map.1 he
  exact smcv112 a (h.2.2.2.2.2.2.1.2 a ha)⟩, h.2.2.2.2.2.2.2.1, trivial⟩
def cv129 (x : S129) : S101 := ⟨x.f0, (cv35 x.f1)⟩
def sm101 (x : S101) : Prop := True ∧ sm40 x.f1 ∧ True
theorem to_93 (x : S129) (h : sm129 x) (k : Nat) (hk : 2097154 ≤ k) : laws_toGot.f k x = some (cv129 x) := by
  unfold laws_toGot.f
  simp only [to_15 x.f1 h.2.1 k (by omega), Option.bind_some]
  rfl
theorem smcv129 (x : S129) (h : sm129 x) : sm101 (cv129 x) := ⟨h.1, smcv35 _ h.2.1, trivial⟩
theorem to_66 (x : (List S129)) (h : (x.length ≤ 1048576 ∧ ∀ e ∈ x, sm129 e)) (k : Nat) (hk : 3145731 ≤ k) : laws_toGotS.f k x = some (x.map cv129) := by
  have hx := h.1
  unfold laws_toGotS.f
  rw [if_pos (by omega), if_pos (by omega)]
  have := to_loop laws_toGotS.l0 rd_T129 (fun k e => laws_toGot.f k e) cv129 x 2097154 hx (rd129 x) (fun k y i => by rw [laws_toGotS.l0]) (fun k e hk he => to_93 e (h.2 e he) k (by omega)) k (List.replicate x.length z101) 0 (by omega) (by simp) rfl (by omega)
  simpa using this
def cv59 (x : S59) : S65 := ⟨x.f0, x.f1, (x.f2.map cv126), (x.f3.map cv129), x.f4⟩
def sm65 (x : S65) : Prop := x.f0.size ≤ 1048576 ∧ True ∧ (x.f2.length ≤ 1048576 ∧ ∀ e ∈ x.f2, sm130 e) ∧ (x.f3.length ≤ 1048576 ∧ ∀ e ∈ x.f3, sm101 e) ∧ (x.f4.length ≤ 1048576 ∧ ∀ e ∈ x.f4, True) ∧ True
theorem to_27 (x : S59) (h : sm59 x) (k : Nat) (hk : 3145731 ≤ k) : laws_toClient.f k x = some (cv59 x) := by
  unfold laws_toClient.f
  simp only [to_65 x.f2 h.2.2.1 k (by omega), to_66 x.f3 h.2.2.2.1 k (by omega), to_50 x.f4 h.2.2.2.2.1 k (by omega), Option.bind_some]
  rfl
theorem smcv59 (x : S59) (h : sm59 x) : sm65 (cv59 x) := ⟨h.1, h.2.1, ⟨by show (List.map cv126 _).length ≤ _; rw [List.length_map]; exact h.2.2.1.1, fun e he => by
  obtain ⟨a, ha, rfl⟩ := List.mem_map.1 he
  exact smcv126 a (h.2.2.1.2 a ha)⟩, ⟨by show (List.map cv129 _).length ≤ _; rw [List.length_map]; exact h.2.2.2.1.1, fun e he => by
  obtain ⟨a, ha, rfl⟩ := List.mem_map.1 he
  exact smcv129 a (h.2.2.2.1.2 a ha)⟩, h.2.2.2.2.1, trivial⟩
theorem eq_54 (x : (List Int)) (h : (x.length ≤ 1048576 ∧ ∀ e ∈ x, True)) (k : Nat) (hk : 1048577 ≤ k) : laws_eqIntS.f k x x = some true := by
  have hx := h.1
  unfold laws_eqIntS.f
  rw [if_pos rfl]
  exact eq_loop laws_eqIntS.l0 rd (fun _ _ => some true) x 0 hx (rdI x) (fun k i => by rw [laws_eqIntS.l0]; simp) (fun _ _ _ _ => rfl) k 0 (by omega) (by omega)
theorem eq_94 (x : S130) (h : sm130 x) (k : Nat) (hk : 0 ≤ k) : laws_eqWait.f x x = some true := by
  unfold laws_eqWait.f
  simp []
theorem rd130 (x : List S130) (i : Nat) (h : i < x.length) : rd_T130 x (i : Int) = x[i] := by simp [rd_T130, h]
theorem eq_67 (x : (List S130)) (h : (x.length ≤ 1048576 ∧ ∀ e ∈ x, sm130 e)) (k : Nat) (hk : 1048577 ≤ k) : laws_eqWaitS.f k x x = some true := by
  have hx := h.1
  unfold laws_eqWaitS.f
  rw [if_pos rfl]
  exact eq_loop laws_eqWaitS.l0 rd_T130 (fun k e => laws_eqWait.f e e) x 0 hx (rd130 x) (fun k i => by rw [laws_eqWaitS.l0]) (fun k e hk he => eq_94 e (h.2 e he) k (by omega)) k 0 (by omega) (by omega)
theorem eq_55 (x : (List ByteArray)) (h : (x.length ≤ 1048576 ∧ ∀ e ∈ x, e.size ≤ 1048576)) (k : Nat) (hk : 1048577 ≤ k) : laws_eqStringS.f k x x = some true := by
  have hx := h.1
  unfold laws_eqStringS.f
  rw [if_pos rfl]
  exact eq_loop laws_eqStringS.l0 (rdOf ByteArray.empty) (fun _ _ => some true) x 0 hx (rdS x) (fun k i => by rw [laws_eqStringS.l0]; simp) (fun _ _ _ _ => rfl) k 0 (by omega) (by omega)
theorem eq_77 (x : S80) (h : sm80 x) (k : Nat) (hk : 1048577 ≤ k) : laws_eqAnswer.f k x x = some true := by
  unfold laws_eqAnswer.f
  simp [eq_55 x.f2 h.2.2.1 k (by omega), eq_55 x.f3 h.2.2.2.1 k (by omega)]
theorem rd80 (x : List S80) (i : Nat) (h : i < x.length) : rd_T80 x (i : Int) = x[i] := by simp [rd_T80, h]
theorem eq_45 (x : (List S80)) (h : (x.length ≤ 1048576 ∧ ∀ e ∈ x, sm80 e)) (k : Nat) (hk : 2097154 ≤ k) : laws_eqAnswerS.f k x x = some true := by
  have hx := h.1
  unfold laws_eqAnswerS.f
  rw [if_pos rfl]
  exact eq_loop laws_eqAnswerS.l0 rd_T80 (fun k e => laws_eqAnswer.f k e e) x 1048577 hx (rd80 x) (fun k i => by rw [laws_eqAnswerS.l0]) (fun k e hk he => eq_77 e (h.2 e he) k (by omega)) k 0 (by omega) (by omega)
theorem eq_17 (x : S40) (h : sm40 x) (k : Nat) (hk : 2097154 ≤ k) : laws_eqReply.f k x x = some true := by
  unfold laws_eqReply.f
  simp [eq_45 x.f6 h.2.2.2.2.2.2.1 k (by omega)]
theorem eq_95 (x : S101) (h : sm101 x) (k : Nat) (hk : 2097154 ≤ k) : laws_eqGot.f k x x = some true := by
  unfold laws_eqGot.f
  simp [eq_17 x.f1 h.2.1 k (by omega)]
theorem rd101 (x : List S101) (i : Nat) (h : i < x.length) : rd_T101 x (i : Int) = x[i] := by simp [rd_T101, h]
theorem eq_68 (x : (List S101)) (h : (x.length ≤ 1048576 ∧ ∀ e ∈ x, sm101 e)) (k : Nat) (hk : 3145731 ≤ k) : laws_eqGotS.f k x x = some true := by
  have hx := h.1
  unfold laws_eqGotS.f
  rw [if_pos rfl]
  exact eq_loop laws_eqGotS.l0 rd_T101 (fun k e => laws_eqGot.f k e e) x 2097154 hx (rd101 x) (fun k i => by rw [laws_eqGotS.l0]) (fun k e hk he => eq_95 e (h.2 e he) k (by omega)) k 0 (by omega) (by omega)
theorem eq_29 (x : S65) (h : sm65 x) (k : Nat) (hk : 3145731 ≤ k) : laws_eqClient.f k x x = some true := by
  unfold laws_eqClient.f
  simp [eq_67 x.f2 h.2.2.1 k (by omega), eq_68 x.f3 h.2.2.2.1 k (by omega), eq_54 x.f4 h.2.2.2.2.1 k (by omega)]
end Go.Proofs.YtnpokacipeobdaaDoor.FamFnExactShowClient
