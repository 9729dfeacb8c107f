/- What the law's own helpers do: they measure, copy, compare, mark. Plain lemmas, no condition. -/
import Derived.Test.YtoaoncnbimcdgaaSaidFnExactAskNow
import Derived.Test.YtoaoncnbimcdgaaZMark
namespace Go.Proofs.Ytoaoncnbimcdgaa.FamFnExactAskNow
open Go.RowKit Go.Proofs.YtoaoncnbimcdgaaW.PrintWords Go.Proofs.YtoaoncnbimcdgaaW.PrintLast Go.Proofs.Ytoaoncnbimcdgaa.ZOpen Go.Proofs.Ytoaoncnbimcdgaa.Z Go.Proofs.Ytoaoncnbimcdgaa.F
open Go.Proofs.Ytoaoncnbimcdgaa.SaidFnExactAskNow Go.Proofs.Ytoaoncnbimcdgaa.ZP
set_option linter.unusedVariables false
set_option linter.unusedSimpArgs false
set_option maxRecDepth 100000

def sm154 (x : S154) : Prop := True ∧ True ∧ x.f2.size ≤ 1048576 ∧ True ∧ True
def wt154 (x : S154) : Nat := x.f2.size
theorem szw_102 (x : S154) (hx : ok154 x) (b : Int) (h0 : 0 ≤ b) (h1 : b ≤ 1048576) (k : Nat) (hk : 0 ≤ k) : ∃ n, laws_szWait.f x b = some n ∧ n ≤ b ∧ (0 ≤ n → sm154 x ∧ n + (wt154 x : Int) = b) := by
  have hm : maxLen = 9223372036854775807 := rfl
  unfold laws_szWait.f
  have s2 : x.f2.size ≤ maxLen := hx.2.2.1
  have e2 : wrap64 (b - (x.f2.size : Int)) = b - (x.f2.size : Int) := by unfold wrap64; omega
  rw [e2]
  by_cases c2 : b - (x.f2.size : Int) < 0
  · rw [if_pos c2]; exact ⟨-1, rfl, by omega, fun h => by omega⟩
  rw [if_neg c2]
  exact ⟨(b - (x.f2.size : Int)), rfl, by omega, fun h => ⟨⟨trivial, trivial, (by omega), trivial, trivial⟩, by unfold wt154; omega⟩⟩
theorem sz_102 (x : S154) (hx : ok154 x) (b : Int) (h0 : 0 ≤ b) (h1 : b ≤ 1048576) (k : Nat) (hk : 0 ≤ k) : ∃ n, laws_szWait.f x b = some n ∧ n ≤ b ∧ (0 ≤ n → sm154 x) := by
  obtain ⟨n, g1, g2, g3⟩ := szw_102 x hx b h0 h1 k hk
  exact ⟨n, g1, g2, fun h => (g3 h).1⟩
theorem rd154 (x : List S154) (i : Nat) (h : i < x.length) : rd_T154 x (i : Int) = x[i] := by simp [rd_T154, h]
theorem szw_36 (l : (List S154)) (hl : okList ok154 l) (b : Int) (h0 : 0 ≤ b) (h1 : b ≤ 1048576) (k : Nat) (hk : 1048577 ≤ k) : ∃ n, laws_szWaitS.f k l b = some n ∧ n ≤ b ∧ (0 ≤ n → (l.length ≤ 1048576 ∧ ∀ e ∈ l, sm154 e) ∧ n + ((((l.length + (l.map wt154).sum) : Nat) : Int) : Int) = b) := by
  have hll : l.length ≤ maxLen := hl.1
  have hm : maxLen = 9223372036854775807 := rfl
  have e : wrap64 (b - (l.length : Int)) = b - (l.length : Int) := by unfold wrap64; omega
  unfold laws_szWaitS.f
  rw [e]
  by_cases c : b - (l.length : Int) < 0
  · rw [if_pos c]; exact ⟨-1, rfl, by omega, fun h => by omega⟩
  rw [if_neg c]
  obtain ⟨n, n1, n2, n3⟩ := sz_loop_w laws_szWaitS.l0 rd_T154 (fun k e b => laws_szWait.f e b) sm154 wt154 l 0 (by omega) (rd154 l) (fun k b i => by rw [laws_szWaitS.l0]) (fun k e b hk he g0 g1 => szw_102 e (hl.2 e he) b g0 g1 k (by omega)) k (b - (l.length : Int)) 0 (by omega) (by omega) (by omega) (by omega)
  refine ⟨n, n1, by omega, fun h => ⟨⟨by omega, fun a ha => ?_⟩, ?_⟩⟩
  · obtain ⟨j, hj, rfl⟩ := List.getElem_of_mem ha
    exact (n3 h).1 j hj (by omega)
  · have w := (n3 h).2
    rw [List.drop_zero] at w
    omega
theorem sz_36 (l : (List S154)) (hl : okList ok154 l) (b : Int) (h0 : 0 ≤ b) (h1 : b ≤ 1048576) (k : Nat) (hk : 1048577 ≤ k) : ∃ n, laws_szWaitS.f k l b = some n ∧ n ≤ b ∧ (0 ≤ n → (l.length ≤ 1048576 ∧ ∀ e ∈ l, sm154 e)) := by
  obtain ⟨n, g1, g2, g3⟩ := szw_36 l hl b h0 h1 k hk
  exact ⟨n, g1, g2, fun h => (g3 h).1⟩
theorem rdS (x : List ByteArray) (i : Nat) (h : i < x.length) : rdOf ByteArray.empty x (i : Int) = x[i] := by simp [rdOf, h]
theorem szw_90 (l : (List ByteArray)) (hl : okList okStr l) (b : Int) (h0 : 0 ≤ b) (h1 : b ≤ 1048576) (k : Nat) (hk : 1048577 ≤ k) : ∃ n, laws_szStringS.f k l b = some n ∧ n ≤ b ∧ (0 ≤ n → (l.length ≤ 1048576 ∧ ∀ e ∈ l, e.size ≤ 1048576) ∧ n + ((((l.length + (l.map ByteArray.size).sum) : Nat) : Int) : Int) = b) := by
  have hll : l.length ≤ maxLen := hl.1
  have hm : maxLen = 9223372036854775807 := rfl
  have e : wrap64 (b - (l.length : Int)) = b - (l.length : Int) := by unfold wrap64; omega
  unfold laws_szStringS.f
  rw [e]
  by_cases c : b - (l.length : Int) < 0
  · rw [if_pos c]; exact ⟨-1, rfl, by omega, fun h => by omega⟩
  rw [if_neg c]
  obtain ⟨n, n1, n2, n3⟩ := sz_loop_w laws_szStringS.l0 (rdOf ByteArray.empty) (fun _ e b => some (wrap64 (b - (e.size : Int)))) (fun e => e.size ≤ 1048576) ByteArray.size l 0 (by omega) (rdS l) (fun k b i => by rw [laws_szStringS.l0]; rfl) (fun k e b _ he g0 g1 => by
      have h2 : e.size ≤ maxLen := hl.2 e he
      exact ⟨_, rfl, by unfold wrap64; omega, fun h => ⟨by unfold wrap64 at h; omega, by unfold wrap64; omega⟩⟩) k (b - (l.length : Int)) 0 (by omega) (by omega) (by omega) (by omega)
  refine ⟨n, n1, by omega, fun h => ⟨⟨by omega, fun a ha => ?_⟩, ?_⟩⟩
  · obtain ⟨j, hj, rfl⟩ := List.getElem_of_mem ha
    exact (n3 h).1 j hj (by omega)
  · have w := (n3 h).2
    rw [List.drop_zero] at w
    omega
theorem sz_90 (l : (List ByteArray)) (hl : okList okStr l) (b : Int) (h0 : 0 ≤ b) (h1 : b ≤ 1048576) (k : Nat) (hk : 1048577 ≤ k) : ∃ n, laws_szStringS.f k l b = some n ∧ n ≤ b ∧ (0 ≤ n → (l.length ≤ 1048576 ∧ ∀ e ∈ l, e.size ≤ 1048576)) := by
  obtain ⟨n, g1, g2, g3⟩ := szw_90 l hl b h0 h1 k hk
  exact ⟨n, g1, g2, fun h => (g3 h).1⟩
def sm241 (x : S241) : Prop := True ∧ True ∧ (x.f2.length ≤ 1048576 ∧ ∀ e ∈ x.f2, e.size ≤ 1048576) ∧ (x.f3.length ≤ 1048576 ∧ ∀ e ∈ x.f3, e.size ≤ 1048576) ∧ True
def wt241 (x : S241) : Nat := (x.f2.length + (x.f2.map ByteArray.size).sum) + (x.f3.length + (x.f3.map ByteArray.size).sum)
theorem szw_188 (x : S241) (hx : ok241 x) (b : Int) (h0 : 0 ≤ b) (h1 : b ≤ 1048576) (k : Nat) (hk : 1048577 ≤ k) : ∃ n, laws_szAnswer.f k x b = some n ∧ n ≤ b ∧ (0 ≤ n → sm241 x ∧ n + (wt241 x : Int) = b) := by
  have hm : maxLen = 9223372036854775807 := rfl
  unfold laws_szAnswer.f
  obtain ⟨n2, e2, b2, p2⟩ := szw_90 x.f2 (hx.2.2.1) b (by omega) (by omega) k (by omega)
  rw [e2, Option.bind_some]
  by_cases c2 : n2 < 0
  · rw [if_pos c2]; exact ⟨-1, rfl, by omega, fun h => by omega⟩
  rw [if_neg c2]
  obtain ⟨n3, e3, b3, p3⟩ := szw_90 x.f3 (hx.2.2.2) n2 (by omega) (by omega) k (by omega)
  rw [e3, Option.bind_some]
  by_cases c3 : n3 < 0
  · rw [if_pos c3]; exact ⟨-1, rfl, by omega, fun h => by omega⟩
  rw [if_neg c3]
  exact ⟨n3, rfl, by omega, fun h => ⟨⟨trivial, trivial, (p2 (by omega)).1, (p3 (by omega)).1, trivial⟩, by have w2 := (p2 (by omega)).2; have w3 := (p3 (by omega)).2; unfold wt241; omega⟩⟩
theorem sz_188 (x : S241) (hx : ok241 x) (b : Int) (h0 : 0 ≤ b) (h1 : b ≤ 1048576) (k : Nat) (hk : 1048577 ≤ k) : ∃ n, laws_szAnswer.f k x b = some n ∧ n ≤ b ∧ (0 ≤ n → sm241 x) := by
  obtain ⟨n, g1, g2, g3⟩ := szw_188 x hx b h0 h1 k hk
  exact ⟨n, g1, g2, fun h => (g3 h).1⟩
theorem rd241 (x : List S241) (i : Nat) (h : i < x.length) : rd_T241 x (i : Int) = x[i] := by simp [rd_T241, h]
theorem szw_176 (l : (List S241)) (hl : okList ok241 l) (b : Int) (h0 : 0 ≤ b) (h1 : b ≤ 1048576) (k : Nat) (hk : 2097154 ≤ k) : ∃ n, laws_szAnswerS.f k l b = some n ∧ n ≤ b ∧ (0 ≤ n → (l.length ≤ 1048576 ∧ ∀ e ∈ l, sm241 e) ∧ n + ((((l.length + (l.map wt241).sum) : Nat) : Int) : Int) = b) := by
  have hll : l.length ≤ maxLen := hl.1
  have hm : maxLen = 9223372036854775807 := rfl
  have e : wrap64 (b - (l.length : Int)) = b - (l.length : Int) := by unfold wrap64; omega
  unfold laws_szAnswerS.f
  rw [e]
  by_cases c : b - (l.length : Int) < 0
  · rw [if_pos c]; exact ⟨-1, rfl, by omega, fun h => by omega⟩
  rw [if_neg c]
  obtain ⟨n, n1, n2, n3⟩ := sz_loop_w laws_szAnswerS.l0 rd_T241 (fun k e b => laws_szAnswer.f k e b) sm241 wt241 l 1048577 (by omega) (rd241 l) (fun k b i => by rw [laws_szAnswerS.l0]) (fun k e b hk he g0 g1 => szw_188 e (hl.2 e he) b g0 g1 k (by omega)) k (b - (l.length : Int)) 0 (by omega) (by omega) (by omega) (by omega)
  refine ⟨n, n1, by omega, fun h => ⟨⟨by omega, fun a ha => ?_⟩, ?_⟩⟩
  · obtain ⟨j, hj, rfl⟩ := List.getElem_of_mem ha
    exact (n3 h).1 j hj (by omega)
  · have w := (n3 h).2
    rw [List.drop_zero] at w
    omega
theorem sz_176 (l : (List S241)) (hl : okList ok241 l) (b : Int) (h0 : 0 ≤ b) (h1 : b ≤ 1048576) (k : Nat) (hk : 2097154 ≤ k) : ∃ n, laws_szAnswerS.f k l b = some n ∧ n ≤ b ∧ (0 ≤ n → (l.length ≤ 1048576 ∧ ∀ e ∈ l, sm241 e)) := by
  obtain ⟨n, g1, g2, g3⟩ := szw_176 l hl b h0 h1 k hk
  exact ⟨n, g1, g2, fun h => (g3 h).1⟩
def sm158 (x : S158) : Prop := x.f0.size ≤ 1048576 ∧ True ∧ True ∧ True ∧ True ∧ True ∧ (x.f6.length ≤ 1048576 ∧ ∀ e ∈ x.f6, sm241 e) ∧ x.f7.size ≤ 1048576 ∧ True
def wt158 (x : S158) : Nat := x.f0.size + (x.f6.length + (x.f6.map wt241).sum) + x.f7.size
theorem szw_151 (x : S158) (hx : ok158 x) (b : Int) (h0 : 0 ≤ b) (h1 : b ≤ 1048576) (k : Nat) (hk : 2097154 ≤ k) : ∃ n, laws_szReply.f k x b = some n ∧ n ≤ b ∧ (0 ≤ n → sm158 x ∧ n + (wt158 x : Int) = b) := by
  have hm : maxLen = 9223372036854775807 := rfl
  unfold laws_szReply.f
  have s0 : x.f0.size ≤ maxLen := hx.1
  have e0 : wrap64 (b - (x.f0.size : Int)) = b - (x.f0.size : Int) := by unfold wrap64; omega
  rw [e0]
  by_cases c0 : b - (x.f0.size : Int) < 0
  · rw [if_pos c0]; exact ⟨-1, rfl, by omega, fun h => by omega⟩
  rw [if_neg c0]
  obtain ⟨n6, e6, b6, p6⟩ := szw_176 x.f6 (hx.2.2.2.2.2.2.1) (b - (x.f0.size : Int)) (by omega) (by omega) k (by omega)
  rw [e6, Option.bind_some]
  by_cases c6 : n6 < 0
  · rw [if_pos c6]; exact ⟨-1, rfl, by omega, fun h => by omega⟩
  rw [if_neg c6]
  have s7 : x.f7.size ≤ maxLen := hx.2.2.2.2.2.2.2
  have e7 : wrap64 (n6 - (x.f7.size : Int)) = n6 - (x.f7.size : Int) := by unfold wrap64; omega
  rw [e7]
  by_cases c7 : n6 - (x.f7.size : Int) < 0
  · rw [if_pos c7]; exact ⟨-1, rfl, by omega, fun h => by omega⟩
  rw [if_neg c7]
  exact ⟨(n6 - (x.f7.size : Int)), rfl, by omega, fun h => ⟨⟨(by omega), trivial, trivial, trivial, trivial, trivial, (p6 (by omega)).1, (by omega), trivial⟩, by have w6 := (p6 (by omega)).2; unfold wt158; omega⟩⟩
theorem sz_151 (x : S158) (hx : ok158 x) (b : Int) (h0 : 0 ≤ b) (h1 : b ≤ 1048576) (k : Nat) (hk : 2097154 ≤ k) : ∃ n, laws_szReply.f k x b = some n ∧ n ≤ b ∧ (0 ≤ n → sm158 x) := by
  obtain ⟨n, g1, g2, g3⟩ := szw_151 x hx b h0 h1 k hk
  exact ⟨n, g1, g2, fun h => (g3 h).1⟩
def sm160 (x : S160) : Prop := True ∧ sm158 x.f1 ∧ True
def wt160 (x : S160) : Nat := wt158 x.f1
theorem szw_103 (x : S160) (hx : ok160 x) (b : Int) (h0 : 0 ≤ b) (h1 : b ≤ 1048576) (k : Nat) (hk : 2097154 ≤ k) : ∃ n, laws_szGot.f k x b = some n ∧ n ≤ b ∧ (0 ≤ n → sm160 x ∧ n + (wt160 x : Int) = b) := by
  have hm : maxLen = 9223372036854775807 := rfl
  unfold laws_szGot.f
  obtain ⟨n1, e1, b1, p1⟩ := szw_151 x.f1 (hx.2) b (by omega) (by omega) k (by omega)
  rw [e1, Option.bind_some]
  by_cases c1 : n1 < 0
  · rw [if_pos c1]; exact ⟨-1, rfl, by omega, fun h => by omega⟩
  rw [if_neg c1]
  exact ⟨n1, rfl, by omega, fun h => ⟨⟨trivial, (p1 (by omega)).1, trivial⟩, by have w1 := (p1 (by omega)).2; unfold wt160; omega⟩⟩
theorem sz_103 (x : S160) (hx : ok160 x) (b : Int) (h0 : 0 ≤ b) (h1 : b ≤ 1048576) (k : Nat) (hk : 2097154 ≤ k) : ∃ n, laws_szGot.f k x b = some n ∧ n ≤ b ∧ (0 ≤ n → sm160 x) := by
  obtain ⟨n, g1, g2, g3⟩ := szw_103 x hx b h0 h1 k hk
  exact ⟨n, g1, g2, fun h => (g3 h).1⟩
theorem rd160 (x : List S160) (i : Nat) (h : i < x.length) : rd_T160 x (i : Int) = x[i] := by simp [rd_T160, h]
theorem szw_37 (l : (List S160)) (hl : okList ok160 l) (b : Int) (h0 : 0 ≤ b) (h1 : b ≤ 1048576) (k : Nat) (hk : 3145731 ≤ k) : ∃ n, laws_szGotS.f k l b = some n ∧ n ≤ b ∧ (0 ≤ n → (l.length ≤ 1048576 ∧ ∀ e ∈ l, sm160 e) ∧ n + ((((l.length + (l.map wt160).sum) : Nat) : Int) : Int) = b) := by
  have hll : l.length ≤ maxLen := hl.1
  have hm : maxLen = 9223372036854775807 := rfl
  have e : wrap64 (b - (l.length : Int)) = b - (l.length : Int) := by unfold wrap64; omega
  unfold laws_szGotS.f
  rw [e]
  by_cases c : b - (l.length : Int) < 0
  · rw [if_pos c]; exact ⟨-1, rfl, by omega, fun h => by omega⟩
  rw [if_neg c]
  obtain ⟨n, n1, n2, n3⟩ := sz_loop_w laws_szGotS.l0 rd_T160 (fun k e b => laws_szGot.f k e b) sm160 wt160 l 2097154 (by omega) (rd160 l) (fun k b i => by rw [laws_szGotS.l0]) (fun k e b hk he g0 g1 => szw_103 e (hl.2 e he) b g0 g1 k (by omega)) k (b - (l.length : Int)) 0 (by omega) (by omega) (by omega) (by omega)
  refine ⟨n, n1, by omega, fun h => ⟨⟨by omega, fun a ha => ?_⟩, ?_⟩⟩
  · obtain ⟨j, hj, rfl⟩ := List.getElem_of_mem ha
    exact (n3 h).1 j hj (by omega)
  · have w := (n3 h).2
    rw [List.drop_zero] at w
    omega
theorem sz_37 (l : (List S160)) (hl : okList ok160 l) (b : Int) (h0 : 0 ≤ b) (h1 : b ≤ 1048576) (k : Nat) (hk : 3145731 ≤ k) : ∃ n, laws_szGotS.f k l b = some n ∧ n ≤ b ∧ (0 ≤ n → (l.length ≤ 1048576 ∧ ∀ e ∈ l, sm160 e)) := by
  obtain ⟨n, g1, g2, g3⟩ := szw_37 l hl b h0 h1 k hk
  exact ⟨n, g1, g2, fun h => (g3 h).1⟩
theorem rdI (x : List Int) (i : Nat) (h : i < x.length) : rd x (i : Int) = x[i] := by simp [rd, h]
theorem szw_38 (l : (List Int)) (hl : okList (okInt .i64) l) (b : Int) (h0 : 0 ≤ b) (h1 : b ≤ 1048576) (k : Nat) (hk : 0 ≤ k) : ∃ n, laws_szIntS.f l b = some n ∧ n ≤ b ∧ (0 ≤ n → (l.length ≤ 1048576 ∧ ∀ e ∈ l, True) ∧ n + (((l.length : Nat) : Int) : Int) = b) := by
  have hll : l.length ≤ maxLen := hl.1
  have hm : maxLen = 9223372036854775807 := rfl
  have e : wrap64 (b - (l.length : Int)) = b - (l.length : Int) := by unfold wrap64; omega
  unfold laws_szIntS.f
  rw [e]
  by_cases c : b - (l.length : Int) < 0
  · rw [if_pos c]; exact ⟨-1, rfl, by omega, fun h => by omega⟩
  rw [if_neg c]
  exact ⟨_, rfl, by omega, fun h => ⟨⟨by omega, fun e he => trivial⟩, by omega⟩⟩
theorem sz_38 (l : (List Int)) (hl : okList (okInt .i64) l) (b : Int) (h0 : 0 ≤ b) (h1 : b ≤ 1048576) (k : Nat) (hk : 0 ≤ k) : ∃ n, laws_szIntS.f l b = some n ∧ n ≤ b ∧ (0 ≤ n → (l.length ≤ 1048576 ∧ ∀ e ∈ l, True)) := by
  obtain ⟨n, g1, g2, g3⟩ := szw_38 l hl b h0 h1 k hk
  exact ⟨n, g1, g2, fun h => (g3 h).1⟩
def sm26 (x : S26) : Prop := x.f0.size ≤ 1048576 ∧ True ∧ (x.f2.length ≤ 1048576 ∧ ∀ e ∈ x.f2, sm154 e) ∧ (x.f3.length ≤ 1048576 ∧ ∀ e ∈ x.f3, sm160 e) ∧ (x.f4.length ≤ 1048576 ∧ ∀ e ∈ x.f4, True) ∧ True
def wt26 (x : S26) : Nat := x.f0.size + (x.f2.length + (x.f2.map wt154).sum) + (x.f3.length + (x.f3.map wt160).sum) + x.f4.length
theorem szw_7 (x : S26) (hx : ok26 x) (b : Int) (h0 : 0 ≤ b) (h1 : b ≤ 1048576) (k : Nat) (hk : 3145731 ≤ k) : ∃ n, laws_szClient.f k x b = some n ∧ n ≤ b ∧ (0 ≤ n → sm26 x ∧ n + (wt26 x : Int) = b) := by
  have hm : maxLen = 9223372036854775807 := rfl
  unfold laws_szClient.f
  have s0 : x.f0.size ≤ maxLen := hx.1
  have e0 : wrap64 (b - (x.f0.size : Int)) = b - (x.f0.size : Int) := by unfold wrap64; omega
  rw [e0]
  by_cases c0 : b - (x.f0.size : Int) < 0
  · rw [if_pos c0]; exact ⟨-1, rfl, by omega, fun h => by omega⟩
  rw [if_neg c0]
  obtain ⟨n2, e2, b2, p2⟩ := szw_36 x.f2 (hx.2.2.1) (b - (x.f0.size : Int)) (by omega) (by omega) k (by omega)
  rw [e2, Option.bind_some]
  by_cases c2 : n2 < 0
  · rw [if_pos c2]; exact ⟨-1, rfl, by omega, fun h => by omega⟩
  rw [if_neg c2]
  obtain ⟨n3, e3, b3, p3⟩ := szw_37 x.f3 (hx.2.2.2.1) n2 (by omega) (by omega) k (by omega)
  rw [e3, Option.bind_some]
  by_cases c3 : n3 < 0
  · rw [if_pos c3]; exact ⟨-1, rfl, by omega, fun h => by omega⟩
  rw [if_neg c3]
  obtain ⟨n4, e4, b4, p4⟩ := szw_38 x.f4 (hx.2.2.2.2) n3 (by omega) (by omega) k (by omega)
  rw [e4, Option.bind_some]
  by_cases c4 : n4 < 0
  · rw [if_pos c4]; exact ⟨-1, rfl, by omega, fun h => by omega⟩
  rw [if_neg c4]
  exact ⟨n4, rfl, by omega, fun h => ⟨⟨(by omega), trivial, (p2 (by omega)).1, (p3 (by omega)).1, (p4 (by omega)).1, trivial⟩, by have w2 := (p2 (by omega)).2; have w3 := (p3 (by omega)).2; have w4 := (p4 (by omega)).2; unfold wt26; omega⟩⟩
theorem sz_7 (x : S26) (hx : ok26 x) (b : Int) (h0 : 0 ≤ b) (h1 : b ≤ 1048576) (k : Nat) (hk : 3145731 ≤ k) : ∃ n, laws_szClient.f k x b = some n ∧ n ≤ b ∧ (0 ≤ n → sm26 x) := by
  obtain ⟨n, g1, g2, g3⟩ := szw_7 x hx b h0 h1 k hk
  exact ⟨n, g1, g2, fun h => (g3 h).1⟩
def cv154 (x : S154) : S89 := ⟨x.f0, x.f1, x.f2, x.f3⟩
def sm89 (x : S89) : Prop := True ∧ True ∧ x.f2.size ≤ 1048576 ∧ True ∧ True
theorem to_105 (x : S154) (h : sm154 x) (k : Nat) (hk : 0 ≤ k) : laws_toWait.f x = some (cv154 x) := by
  unfold laws_toWait.f
  rfl
theorem smcv154 (x : S154) (h : sm154 x) : sm89 (cv154 x) := ⟨h.1, h.2.1, h.2.2.1, h.2.2.2.1, trivial⟩
theorem to_40 (x : (List S154)) (h : (x.length ≤ 1048576 ∧ ∀ e ∈ x, sm154 e)) (k : Nat) (hk : 1048577 ≤ k) : laws_toWaitS.f k x = some (x.map cv154) := by
  have hx := h.1
  unfold laws_toWaitS.f
  rw [if_pos (by omega), if_pos (by omega)]
  have := to_loop laws_toWaitS.l0 rd_T154 (fun k e => laws_toWait.f e) cv154 x 0 hx (rd154 x) (fun k y i => by rw [laws_toWaitS.l0]) (fun k e hk he => to_105 e (h.2 e he) k (by omega)) k (List.replicate x.length z89) 0 (by omega) (by simp) rfl (by omega)
  simpa using this
theorem to_94 (x : (List ByteArray)) (h : (x.length ≤ 1048576 ∧ ∀ e ∈ x, e.size ≤ 1048576)) (k : Nat) (hk : 1048577 ≤ k) : laws_toStringS.f k x = some x := by
  have hx := h.1
  unfold laws_toStringS.f
  rw [if_pos (by omega), if_pos (by omega)]
  have := to_loop laws_toStringS.l0 (rdOf ByteArray.empty) (fun _ e => some e) id x 0 hx (rdS x) (fun k y i => by rw [laws_toStringS.l0]; rfl) (fun _ _ _ _ => rfl) k (List.replicate x.length (⟨#[]⟩ : ByteArray)) 0 (by omega) (by simp) rfl (by omega)
  simpa using this
def cv241 (x : S241) : S109 := ⟨x.f0, x.f1, x.f2, x.f3⟩
def sm109 (x : S109) : Prop := True ∧ True ∧ (x.f2.length ≤ 1048576 ∧ ∀ e ∈ x.f2, e.size ≤ 1048576) ∧ (x.f3.length ≤ 1048576 ∧ ∀ e ∈ x.f3, e.size ≤ 1048576) ∧ True
theorem to_189 (x : S241) (h : sm241 x) (k : Nat) (hk : 1048577 ≤ k) : laws_toAnswer.f k x = some (cv241 x) := by
  unfold laws_toAnswer.f
  simp only [to_94 x.f2 h.2.2.1 k (by omega), to_94 x.f3 h.2.2.2.1 k (by omega), Option.bind_some]
  rfl
theorem smcv241 (x : S241) (h : sm241 x) : sm109 (cv241 x) := ⟨h.1, h.2.1, h.2.2.1, h.2.2.2.1, trivial⟩
theorem to_177 (x : (List S241)) (h : (x.length ≤ 1048576 ∧ ∀ e ∈ x, sm241 e)) (k : Nat) (hk : 2097154 ≤ k) : laws_toAnswerS.f k x = some (x.map cv241) := by
  have hx := h.1
  unfold laws_toAnswerS.f
  rw [if_pos (by omega), if_pos (by omega)]
  have := to_loop laws_toAnswerS.l0 rd_T241 (fun k e => laws_toAnswer.f k e) cv241 x 1048577 hx (rd241 x) (fun k y i => by rw [laws_toAnswerS.l0]) (fun k e hk he => to_189 e (h.2 e he) k (by omega)) k (List.replicate x.length z109) 0 (by omega) (by simp) rfl (by omega)
  simpa using this
def cv158 (x : S158) : S40 := ⟨x.f0, x.f1, x.f2, x.f3, x.f4, x.f5, (x.f6.map cv241), x.f7⟩
def sm40 (x : S40) : Prop := x.f0.size ≤ 1048576 ∧ True ∧ True ∧ True ∧ True ∧ True ∧ (x.f6.length ≤ 1048576 ∧ ∀ e ∈ x.f6, sm109 e) ∧ x.f7.size ≤ 1048576 ∧ True
theorem to_152 (x : S158) (h : sm158 x) (k : Nat) (hk : 2097154 ≤ k) : laws_toReply.f k x = some (cv158 x) := by
  unfold laws_toReply.f
  simp only [to_177 x.f6 h.2.2.2.2.2.2.1 k (by omega), Option.bind_some]
  rfl
theorem smcv158 (x : S158) (h : sm158 x) : sm40 (cv158 x) := ⟨h.1, h.2.1, h.2.2.1, h.2.2.2.1, h.2.2.2.2.1, h.2.2.2.2.2.1, ⟨by show (List.map cv241 _).length ≤ _; rw [List.length_map]; exact h.2.2.2.2.2.2.1.1, fun e he => by
  obtain ⟨a, ha, rfl⟩ := List.mem_map.1 he
  exact smcv241 a (h.2.2.2.2.2.2.1.2 a ha)⟩, h.2.2.2.2.2.2.2.1, trivial⟩
def cv160 (x : S160) : S150 := ⟨x.f0, (cv158 x.f1)⟩
def sm150 (x : S150) : Prop := True ∧ sm40 x.f1 ∧ True
theorem to_106 (x : S160) (h : sm160 x) (k : Nat) (hk : 2097154 ≤ k) : laws_toGot.f k x = some (cv160 x) := by
  unfold laws_toGot.f
  simp only [to_152 x.f1 h.2.1 k (by omega), Option.bind_some]
  rfl
theorem smcv160 (x : S160) (h : sm160 x) : sm150 (cv160 x) := ⟨h.1, smcv158 _ h.2.1, trivial⟩
theorem to_41 (x : (List S160)) (h : (x.length ≤ 1048576 ∧ ∀ e ∈ x, sm160 e)) (k : Nat) (hk : 3145731 ≤ k) : laws_toGotS.f k x = some (x.map cv160) := by
  have hx := h.1
  unfold laws_toGotS.f
  rw [if_pos (by omega), if_pos (by omega)]
  have := to_loop laws_toGotS.l0 rd_T160 (fun k e => laws_toGot.f k e) cv160 x 2097154 hx (rd160 x) (fun k y i => by rw [laws_toGotS.l0]) (fun k e hk he => to_106 e (h.2 e he) k (by omega)) k (List.replicate x.length z150) 0 (by omega) (by simp) rfl (by omega)
  simpa using this
theorem to_42 (x : (List Int)) (h : (x.length ≤ 1048576 ∧ ∀ e ∈ x, True)) (k : Nat) (hk : 1048577 ≤ k) : laws_toIntS.f k x = some x := by
  have hx := h.1
  unfold laws_toIntS.f
  rw [if_pos (by omega), if_pos (by omega)]
  have := to_loop laws_toIntS.l0 rd (fun _ e => some e) id x 0 hx (rdI x) (fun k y i => by rw [laws_toIntS.l0]; rfl) (fun _ _ _ _ => rfl) k (List.replicate x.length (0 : Int)) 0 (by omega) (by simp) rfl (by omega)
  simpa using this
def cv26 (x : S26) : S31 := ⟨x.f0, x.f1, (x.f2.map cv154), (x.f3.map cv160), x.f4⟩
def sm31 (x : S31) : Prop := x.f0.size ≤ 1048576 ∧ True ∧ (x.f2.length ≤ 1048576 ∧ ∀ e ∈ x.f2, sm89 e) ∧ (x.f3.length ≤ 1048576 ∧ ∀ e ∈ x.f3, sm150 e) ∧ (x.f4.length ≤ 1048576 ∧ ∀ e ∈ x.f4, True) ∧ True
theorem to_9 (x : S26) (h : sm26 x) (k : Nat) (hk : 3145731 ≤ k) : laws_toClient.f k x = some (cv26 x) := by
  unfold laws_toClient.f
  simp only [to_40 x.f2 h.2.2.1 k (by omega), to_41 x.f3 h.2.2.2.1 k (by omega), to_42 x.f4 h.2.2.2.2.1 k (by omega), Option.bind_some]
  rfl
theorem smcv26 (x : S26) (h : sm26 x) : sm31 (cv26 x) := ⟨h.1, h.2.1, ⟨by show (List.map cv154 _).length ≤ _; rw [List.length_map]; exact h.2.2.1.1, fun e he => by
  obtain ⟨a, ha, rfl⟩ := List.mem_map.1 he
  exact smcv154 a (h.2.2.1.2 a ha)⟩, ⟨by show (List.map cv160 _).length ≤ _; rw [List.length_map]; exact h.2.2.2.1.1, fun e he => by
  obtain ⟨a, ha, rfl⟩ := List.mem_map.1 he
  exact smcv160 a (h.2.2.2.1.2 a ha)⟩, h.2.2.2.2.1, trivial⟩
theorem eq_108 (x : S89) (h : sm89 x) (k : Nat) (hk : 0 ≤ k) : laws_eqWait.f x x = some true := by
  unfold laws_eqWait.f
  simp []
theorem rd89 (x : List S89) (i : Nat) (h : i < x.length) : rd_T89 x (i : Int) = x[i] := by simp [rd_T89, h]
theorem eq_44 (x : (List S89)) (h : (x.length ≤ 1048576 ∧ ∀ e ∈ x, sm89 e)) (k : Nat) (hk : 1048577 ≤ k) : laws_eqWaitS.f k x x = some true := by
  have hx := h.1
  unfold laws_eqWaitS.f
  rw [if_pos rfl]
  exact eq_loop laws_eqWaitS.l0 rd_T89 (fun k e => laws_eqWait.f e e) x 0 hx (rd89 x) (fun k i => by rw [laws_eqWaitS.l0]) (fun k e hk he => eq_108 e (h.2 e he) k (by omega)) k 0 (by omega) (by omega)
theorem eq_100 (x : (List ByteArray)) (h : (x.length ≤ 1048576 ∧ ∀ e ∈ x, e.size ≤ 1048576)) (k : Nat) (hk : 1048577 ≤ k) : laws_eqStringS.f k x x = some true := by
  have hx := h.1
  unfold laws_eqStringS.f
  rw [if_pos rfl]
  exact eq_loop laws_eqStringS.l0 (rdOf ByteArray.empty) (fun _ _ => some true) x 0 hx (rdS x) (fun k i => by rw [laws_eqStringS.l0]; simp) (fun _ _ _ _ => rfl) k 0 (by omega) (by omega)
theorem eq_124 (x : S109) (h : sm109 x) (k : Nat) (hk : 1048577 ≤ k) : laws_eqAnswer.f k x x = some true := by
  unfold laws_eqAnswer.f
  simp [eq_100 x.f2 h.2.2.1 k (by omega), eq_100 x.f3 h.2.2.2.1 k (by omega)]
theorem rd109 (x : List S109) (i : Nat) (h : i < x.length) : rd_T109 x (i : Int) = x[i] := by simp [rd_T109, h]
theorem eq_64 (x : (List S109)) (h : (x.length ≤ 1048576 ∧ ∀ e ∈ x, sm109 e)) (k : Nat) (hk : 2097154 ≤ k) : laws_eqAnswerS.f k x x = some true := by
  have hx := h.1
  unfold laws_eqAnswerS.f
  rw [if_pos rfl]
  exact eq_loop laws_eqAnswerS.l0 rd_T109 (fun k e => laws_eqAnswer.f k e e) x 1048577 hx (rd109 x) (fun k i => by rw [laws_eqAnswerS.l0]) (fun k e hk he => eq_124 e (h.2 e he) k (by omega)) k 0 (by omega) (by omega)
theorem eq_16 (x : S40) (h : sm40 x) (k : Nat) (hk : 2097154 ≤ k) : laws_eqReply.f k x x = some true := by
  unfold laws_eqReply.f
  simp [eq_64 x.f6 h.2.2.2.2.2.2.1 k (by omega)]
theorem eq_109 (x : S150) (h : sm150 x) (k : Nat) (hk : 2097154 ≤ k) : laws_eqGot.f k x x = some true := by
  unfold laws_eqGot.f
  simp [eq_16 x.f1 h.2.1 k (by omega)]
theorem rd150 (x : List S150) (i : Nat) (h : i < x.length) : rd_T150 x (i : Int) = x[i] := by simp [rd_T150, h]
theorem eq_45 (x : (List S150)) (h : (x.length ≤ 1048576 ∧ ∀ e ∈ x, sm150 e)) (k : Nat) (hk : 3145731 ≤ k) : laws_eqGotS.f k x x = some true := by
  have hx := h.1
  unfold laws_eqGotS.f
  rw [if_pos rfl]
  exact eq_loop laws_eqGotS.l0 rd_T150 (fun k e => laws_eqGot.f k e e) x 2097154 hx (rd150 x) (fun k i => by rw [laws_eqGotS.l0]) (fun k e hk he => eq_109 e (h.2 e he) k (by omega)) k 0 (by omega) (by omega)
theorem eq_46 (x : (List Int)) (h : (x.length ≤ 1048576 ∧ ∀ e ∈ x, True)) (k : Nat) (hk : 1048577 ≤ k) : laws_eqIntS.f k x x = some true := by
  have hx := h.1
  unfold laws_eqIntS.f
  rw [if_pos rfl]
  exact eq_loop laws_eqIntS.l0 rd (fun _ _ => some true) x 0 hx (rdI x) (fun k i => by rw [laws_eqIntS.l0]; simp) (fun _ _ _ _ => rfl) k 0 (by omega) (by omega)
theorem eq_11 (x : S31) (h : sm31 x) (k : Nat) (hk : 3145731 ≤ k) : laws_eqClient.f k x x = some true := by
  unfold laws_eqClient.f
  simp [eq_44 x.f2 h.2.2.1 k (by omega), eq_45 x.f3 h.2.2.2.1 k (by omega), eq_46 x.f4 h.2.2.2.2.1 k (by omega)]
def txt (m : Int) : ByteArray := (laws_markText.f 64 m).getD ByteArray.empty
theorem text_loop : ∀ (n : Nat) (m : Int) (s : ByteArray), 0 ≤ m → m ≤ 4611686018427387904 → m < 10 ^ n → s.size + n ≤ 4611686018427387904 → ∃ t, ∀ k, n < k → laws_markText.l0 k m s = some t
  | 0, m, s, h0, hB, h1, hs => by
    obtain rfl : m = 0 := by omega
    have e1 : (⟨#[109]⟩ : ByteArray).size = 1 := rfl
    refine ⟨(⟨#[109]⟩ : ByteArray) ++ s, fun k hk => ?_⟩
    obtain ⟨k, rfl⟩ : ∃ q, k = q + 1 := ⟨k - 1, by omega⟩
    rw [laws_markText.l0, if_neg (by omega), if_pos (by omega)]
  | n + 1, m, s, h0, hB, h1, hs => by
    by_cases c : 0 < m
    · have e2 : (strOfNums ([((wrap64 (48 + (Int.tmod m 10))) % 256)] : List Int)).size = 1 := strOfNums_size _
      have e3 : Int.tdiv m 10 = m / 10 := Int.tdiv_eq_ediv_of_nonneg h0
      have e5 : m / 10 < 10 ^ n := by
        have : (10 : Int) ^ (n + 1) = 10 ^ n * 10 := Int.pow_succ 10 n
        omega
      have hw : wrap64 (Int.tdiv m 10) = m / 10 := by rw [e3]; unfold wrap64; omega
      · obtain ⟨t, ht⟩ := text_loop n (m / 10) ((strOfNums ([((wrap64 (48 + (Int.tmod m 10))) % 256)] : List Int)) ++ s) (by omega) (by omega) e5 (by rw [ByteArray.size_append, e2]; omega)
        refine ⟨t, fun k hk => ?_⟩
        obtain ⟨k, rfl⟩ : ∃ q, k = q + 1 := ⟨k - 1, by omega⟩
        rw [laws_markText.l0, if_pos c, if_pos (by omega), hw]
        exact ht k (by omega)
    · obtain rfl : m = 0 := by omega
      have e1 : (⟨#[109]⟩ : ByteArray).size = 1 := rfl
      refine ⟨(⟨#[109]⟩ : ByteArray) ++ s, fun k hk => ?_⟩
      obtain ⟨k, rfl⟩ : ∃ q, k = q + 1 := ⟨k - 1, by omega⟩
      rw [laws_markText.l0, if_neg (by omega), if_pos (by omega)]
theorem text (m : Int) (h0 : 0 < m) (h1 : m ≤ 4611686018427387904) (k : Nat) (hk : 64 ≤ k) : laws_markText.f k m = some (txt m) := by
  obtain ⟨t, ht⟩ := text_loop 19 m (⟨#[]⟩ : ByteArray) (by omega) h1 (by omega) (by show 0 + 19 ≤ _; omega)
  have e : ∀ k, 64 ≤ k → laws_markText.f k m = some t := fun k hk => by
    unfold laws_markText.f
    rw [if_neg (by omega)]
    exact ht k (by omega)
  rw [e k hk]
  unfold txt
  rw [e 64 (by omega)]
  rfl
theorem mk_47 (x : (List S89)) (h : (x.length ≤ 1048576 ∧ ∀ e ∈ x, sm89 e)) (m : Int) (h0 : 0 < m) (h1 : m + 4194308 ≤ 4611686018427387904) (k : Nat) (hk : 1048641 ≤ k) : ∃ m2 r, laws_markWaitS.f k x m = some (m2, r) ∧ m ≤ m2 ∧ m2 ≤ m + 4194308 ∧ (∀ k, 1048641 ≤ k → laws_heldWaitS.f k r m = some m2) := by
  have hx := h.1
  have hw : (4 : Int) * ((x.length - 0 : Nat) : Int) ≤ 4194304 := by omega
  refine Exists.elim (mark_loop True laws_markWaitS.l0 laws_heldWaitS.l0 x sm89 64 4 4611686018427387900 hx (fun k l m i e hK hi hl hle hp hm0 hm1 => ?_) (fun k l m => ?_) ?_ x.length k x m 0 rfl (Nat.zero_le _) rfl (fun j e _ he => h.2 e (List.mem_of_getElem? he)) h0 (by omega) (by omega)) (fun m2 HM => ?_)
  · have c1 : (i : Int) < (x.length : Int) := by omega
    have c0 : 0 ≤ (i : Int) := by omega
    have ew : wrap64 ((i : Int) + 1) = ((i + 1 : Nat) : Int) := by rw [w64 (by omega) (by omega)]; rfl
    have re : rd_T89 l (i : Int) = e := by rw [rd89 l i (by omega)]; exact Option.some.inj ((List.getElem?_eq_getElem (by omega)).symm.trans hle)
    have rs : ∀ y, rd_T89 (l.set i y) (i : Int) = y := fun y => by rw [rd89 _ i (by rw [List.length_set]; omega), List.getElem_set_self]
    refine ⟨(⟨m, m + 1, (txt (m + 1 + 1)), m + 1 + 1 + 1⟩ : S89), m + 1 + 1 + 1 + 1, ?_, by omega, by omega, fun _ k' l2 hK' hl2 he2 => ?_⟩
    · rw [laws_markWaitS.l0]
      simp only [lets, c1, c0, ew, re, rs, Int.toNat_natCast, List.set_set, if_true, Option.bind_some, u89_0_3, u89_1_3, u89_2_9, u89_3_3, show wrap64 (m + 1) = m + 1 from w64 (by omega) (by omega), show wrap64 (m + 1 + 1) = m + 1 + 1 from w64 (by omega) (by omega), text (m + 1 + 1) (by omega) (by omega) k (by omega), show wrap64 (m + 1 + 1 + 1) = m + 1 + 1 + 1 from w64 (by omega) (by omega), show wrap64 (m + 1 + 1 + 1 + 1) = m + 1 + 1 + 1 + 1 from w64 (by omega) (by omega)]
    · have c2 : (i : Int) < (l2.length : Int) := by omega
      have re2 : rd_T89 l2 (i : Int) = (⟨m, m + 1, (txt (m + 1 + 1)), m + 1 + 1 + 1⟩ : S89) := by rw [rd89 l2 i (by omega)]; exact Option.some.inj ((List.getElem?_eq_getElem (by omega)).symm.trans he2)
      rw [laws_heldWaitS.l0]
      simp only [c2, c0, ew, re2, if_true, if_false, Option.bind_some, show wrap64 (m + 1) = m + 1 from w64 (by omega) (by omega), show wrap64 (m + 1 + 1) = m + 1 + 1 from w64 (by omega) (by omega), text (m + 1 + 1) (by omega) (by omega) k' (by omega), show wrap64 (m + 1 + 1 + 1) = m + 1 + 1 + 1 from w64 (by omega) (by omega), show wrap64 (m + 1 + 1 + 1 + 1) = m + 1 + 1 + 1 + 1 from w64 (by omega) (by omega)]
  · rw [laws_markWaitS.l0, if_neg (by omega)]
  · intro _ k l2 m hl2
    rw [laws_heldWaitS.l0, if_neg (by omega)]
  · obtain ⟨r, g1, g2, g3, g4, _, g6⟩ := HM
    refine ⟨m2, r, by unfold laws_markWaitS.f; exact g1, g2, by omega, fun k' hk' => by unfold laws_heldWaitS.f; exact g6 trivial k' (by omega)⟩
theorem mk_101 (x : (List ByteArray)) (h : (x.length ≤ 1048576 ∧ ∀ e ∈ x, e.size ≤ 1048576)) (m : Int) (h0 : 0 < m) (h1 : m + 1048577 ≤ 4611686018427387904) (k : Nat) (hk : 1048641 ≤ k) : ∃ m2 r, laws_markStringS.f k x m = some (m2, r) ∧ m ≤ m2 ∧ m2 ≤ m + 1048577 ∧ (∀ k, 1048641 ≤ k → laws_heldStringS.f k r m = some m2) := by
  have hx := h.1
  have hw : (1 : Int) * ((x.length - 0 : Nat) : Int) ≤ 1048576 := by omega
  refine Exists.elim (mark_loop True laws_markStringS.l0 laws_heldStringS.l0 x (fun e => e.size ≤ 1048576) 64 1 4611686018427387903 hx (fun k l m i e hK hi hl hle hp hm0 hm1 => ?_) (fun k l m => ?_) ?_ x.length k x m 0 rfl (Nat.zero_le _) rfl (fun j e _ he => h.2 e (List.mem_of_getElem? he)) h0 (by omega) (by omega)) (fun m2 HM => ?_)
  · have c1 : (i : Int) < (x.length : Int) := by omega
    have c0 : 0 ≤ (i : Int) := by omega
    have ew : wrap64 ((i : Int) + 1) = ((i + 1 : Nat) : Int) := by rw [w64 (by omega) (by omega)]; rfl
    have re : (rdOf ByteArray.empty) l (i : Int) = e := by rw [rdS l i (by omega)]; exact Option.some.inj ((List.getElem?_eq_getElem (by omega)).symm.trans hle)
    have rs : ∀ y, (rdOf ByteArray.empty) (l.set i y) (i : Int) = y := fun y => by rw [rdS _ i (by rw [List.length_set]; omega), List.getElem_set_self]
    refine ⟨(txt (m)), m + 1, ?_, by omega, by omega, fun _ k' l2 hK' hl2 he2 => ?_⟩
    · rw [laws_markStringS.l0]
      simp only [lets, c1, c0, ew, re, rs, Int.toNat_natCast, List.set_set, if_true, Option.bind_some, text (m) (by omega) (by omega) k (by omega), show wrap64 (m + 1) = m + 1 from w64 (by omega) (by omega)]
    · have c2 : (i : Int) < (l2.length : Int) := by omega
      have re2 : (rdOf ByteArray.empty) l2 (i : Int) = (txt (m)) := by rw [rdS l2 i (by omega)]; exact Option.some.inj ((List.getElem?_eq_getElem (by omega)).symm.trans he2)
      rw [laws_heldStringS.l0]
      simp only [c2, c0, ew, re2, if_true, if_false, Option.bind_some, text (m) (by omega) (by omega) k' (by omega), show wrap64 (m + 1) = m + 1 from w64 (by omega) (by omega)]
  · rw [laws_markStringS.l0, if_neg (by omega)]
  · intro _ k l2 m hl2
    rw [laws_heldStringS.l0, if_neg (by omega)]
  · obtain ⟨r, g1, g2, g3, g4, _, g6⟩ := HM
    refine ⟨m2, r, by unfold laws_markStringS.f; exact g1, g2, by omega, fun k' hk' => by unfold laws_heldStringS.f; exact g6 trivial k' (by omega)⟩
theorem mk_65 (x : (List S109)) (h : (x.length ≤ 1048576 ∧ ∀ e ∈ x, sm109 e)) (m : Int) (h0 : 0 < m) (h1 : m + 2199029547012 ≤ 4611686018427387904) (k : Nat) (hk : 2097218 ≤ k) : ∃ m2 r, laws_markAnswerS.f k x m = some (m2, r) ∧ m ≤ m2 ∧ m2 ≤ m + 2199029547012 ∧ (∀ k, 2097218 ≤ k → laws_heldAnswerS.f k r m = some m2) := by
  have hx := h.1
  have hw : (2097156 : Int) * ((x.length - 0 : Nat) : Int) ≤ 2199027449856 := by omega
  refine Exists.elim (mark_loop True laws_markAnswerS.l0 laws_heldAnswerS.l0 x sm109 1048641 2097156 4611686018425290748 hx (fun k l m i e hK hi hl hle hp hm0 hm1 => ?_) (fun k l m => ?_) ?_ x.length k x m 0 rfl (Nat.zero_le _) rfl (fun j e _ he => h.2 e (List.mem_of_getElem? he)) h0 (by omega) (by omega)) (fun m2 HM => ?_)
  · have c1 : (i : Int) < (x.length : Int) := by omega
    have c0 : 0 ≤ (i : Int) := by omega
    have ew : wrap64 ((i : Int) + 1) = ((i + 1 : Nat) : Int) := by rw [w64 (by omega) (by omega)]; rfl
    have re : rd_T109 l (i : Int) = e := by rw [rd109 l i (by omega)]; exact Option.some.inj ((List.getElem?_eq_getElem (by omega)).symm.trans hle)
    obtain ⟨m0, r0, e0, a0, b0, d0⟩ := mk_101 e.f2 hp.2.2.1 (m + 1 + 1) (by omega) (by omega) k (by omega)
    obtain ⟨m1, r1, e1, a1, b1, d1⟩ := mk_101 e.f3 hp.2.2.2.1 (m0) (by omega) (by omega) k (by omega)
    have rs : ∀ y, rd_T109 (l.set i y) (i : Int) = y := fun y => by rw [rd109 _ i (by rw [List.length_set]; omega), List.getElem_set_self]
    refine ⟨(⟨m, m + 1, r0, r1⟩ : S109), m1, ?_, by omega, by omega, fun _ k' l2 hK' hl2 he2 => ?_⟩
    · rw [laws_markAnswerS.l0]
      simp only [lets, c1, c0, ew, re, rs, Int.toNat_natCast, List.set_set, if_true, Option.bind_some, u109_0_3, u109_1_3, u109_2_73, u109_3_73, show wrap64 (m + 1) = m + 1 from w64 (by omega) (by omega), show wrap64 (m + 1 + 1) = m + 1 + 1 from w64 (by omega) (by omega), e0, e1]
    · have c2 : (i : Int) < (l2.length : Int) := by omega
      have re2 : rd_T109 l2 (i : Int) = (⟨m, m + 1, r0, r1⟩ : S109) := by rw [rd109 l2 i (by omega)]; exact Option.some.inj ((List.getElem?_eq_getElem (by omega)).symm.trans he2)
      rw [laws_heldAnswerS.l0]
      simp only [c2, c0, ew, re2, if_true, if_false, Option.bind_some, show wrap64 (m + 1) = m + 1 from w64 (by omega) (by omega), show wrap64 (m + 1 + 1) = m + 1 + 1 from w64 (by omega) (by omega), d0 k' (by omega), show ¬ m0 < 0 by omega, d1 k' (by omega), show ¬ m1 < 0 by omega]
  · rw [laws_markAnswerS.l0, if_neg (by omega)]
  · intro _ k l2 m hl2
    rw [laws_heldAnswerS.l0, if_neg (by omega)]
  · obtain ⟨r, g1, g2, g3, g4, _, g6⟩ := HM
    refine ⟨m2, r, by unfold laws_markAnswerS.f; exact g1, g2, by omega, fun k' hk' => by unfold laws_heldAnswerS.f; exact g6 trivial k' (by omega)⟩
theorem mk_48 (x : (List S150)) (h : (x.length ≤ 1048576 ∧ ∀ e ∈ x, sm150 e)) (m : Int) (h0 : 0 < m) (h1 : m + 2305851805325590540 ≤ 4611686018427387904) (k : Nat) (hk : 3145795 ≤ k) : ∃ m2 r, laws_markGotS.f k x m = some (m2, r) ∧ m ≤ m2 ∧ m2 ≤ m + 2305851805325590540 ∧ (∀ k, 3145795 ≤ k → laws_heldGotS.f k r m = some m2) := by
  have hx := h.1
  have hw : (2199029547020 : Int) * ((x.length - 0 : Nat) : Int) ≤ 2305849606296043520 := by omega
  refine Exists.elim (mark_loop True laws_markGotS.l0 laws_heldGotS.l0 x sm150 2097218 2199029547020 4611683819397840884 hx (fun k l m i e hK hi hl hle hp hm0 hm1 => ?_) (fun k l m => ?_) ?_ x.length k x m 0 rfl (Nat.zero_le _) rfl (fun j e _ he => h.2 e (List.mem_of_getElem? he)) h0 (by omega) (by omega)) (fun m2 HM => ?_)
  · have c1 : (i : Int) < (x.length : Int) := by omega
    have c0 : 0 ≤ (i : Int) := by omega
    have ew : wrap64 ((i : Int) + 1) = ((i + 1 : Nat) : Int) := by rw [w64 (by omega) (by omega)]; rfl
    have re : rd_T150 l (i : Int) = e := by rw [rd150 l i (by omega)]; exact Option.some.inj ((List.getElem?_eq_getElem (by omega)).symm.trans hle)
    obtain ⟨m0, r0, e0, a0, b0, d0⟩ := mk_65 e.f1.f6 hp.2.1.2.2.2.2.2.2.1 (m + 1 + 1 + 1 + 1 + 1 + 1 + 1) (by omega) (by omega) k (by omega)
    have rs : ∀ y, rd_T150 (l.set i y) (i : Int) = y := fun y => by rw [rd150 _ i (by rw [List.length_set]; omega), List.getElem_set_self]
    refine ⟨(⟨m, (⟨(txt (m + 1)), m + 1 + 1, m + 1 + 1 + 1, m + 1 + 1 + 1 + 1, m + 1 + 1 + 1 + 1 + 1, m + 1 + 1 + 1 + 1 + 1 + 1, r0, (txt (m0))⟩ : S40)⟩ : S150), m0 + 1, ?_, by omega, by omega, fun _ k' l2 hK' hl2 he2 => ?_⟩
    · rw [laws_markGotS.l0]
      simp only [lets, c1, c0, ew, re, rs, Int.toNat_natCast, List.set_set, if_true, Option.bind_some, u150_0_3, u150_1_9, u150_2_3, u150_3_3, u150_4_3, u150_5_3, u150_6_3, u150_7_38, u150_8_9, show wrap64 (m + 1) = m + 1 from w64 (by omega) (by omega), text (m + 1) (by omega) (by omega) k (by omega), show wrap64 (m + 1 + 1) = m + 1 + 1 from w64 (by omega) (by omega), show wrap64 (m + 1 + 1 + 1) = m + 1 + 1 + 1 from w64 (by omega) (by omega), show wrap64 (m + 1 + 1 + 1 + 1) = m + 1 + 1 + 1 + 1 from w64 (by omega) (by omega), show wrap64 (m + 1 + 1 + 1 + 1 + 1) = m + 1 + 1 + 1 + 1 + 1 from w64 (by omega) (by omega), show wrap64 (m + 1 + 1 + 1 + 1 + 1 + 1) = m + 1 + 1 + 1 + 1 + 1 + 1 from w64 (by omega) (by omega), show wrap64 (m + 1 + 1 + 1 + 1 + 1 + 1 + 1) = m + 1 + 1 + 1 + 1 + 1 + 1 + 1 from w64 (by omega) (by omega), e0, text (m0) (by omega) (by omega) k (by omega), show wrap64 (m0 + 1) = m0 + 1 from w64 (by omega) (by omega)]
    · have c2 : (i : Int) < (l2.length : Int) := by omega
      have re2 : rd_T150 l2 (i : Int) = (⟨m, (⟨(txt (m + 1)), m + 1 + 1, m + 1 + 1 + 1, m + 1 + 1 + 1 + 1, m + 1 + 1 + 1 + 1 + 1, m + 1 + 1 + 1 + 1 + 1 + 1, r0, (txt (m0))⟩ : S40)⟩ : S150) := by rw [rd150 l2 i (by omega)]; exact Option.some.inj ((List.getElem?_eq_getElem (by omega)).symm.trans he2)
      rw [laws_heldGotS.l0]
      simp only [c2, c0, ew, re2, if_true, if_false, Option.bind_some, show wrap64 (m + 1) = m + 1 from w64 (by omega) (by omega), text (m + 1) (by omega) (by omega) k' (by omega), show wrap64 (m + 1 + 1) = m + 1 + 1 from w64 (by omega) (by omega), show wrap64 (m + 1 + 1 + 1) = m + 1 + 1 + 1 from w64 (by omega) (by omega), show wrap64 (m + 1 + 1 + 1 + 1) = m + 1 + 1 + 1 + 1 from w64 (by omega) (by omega), show wrap64 (m + 1 + 1 + 1 + 1 + 1) = m + 1 + 1 + 1 + 1 + 1 from w64 (by omega) (by omega), show wrap64 (m + 1 + 1 + 1 + 1 + 1 + 1) = m + 1 + 1 + 1 + 1 + 1 + 1 from w64 (by omega) (by omega), show wrap64 (m + 1 + 1 + 1 + 1 + 1 + 1 + 1) = m + 1 + 1 + 1 + 1 + 1 + 1 + 1 from w64 (by omega) (by omega), d0 k' (by omega), show ¬ m0 < 0 by omega, text (m0) (by omega) (by omega) k' (by omega), show wrap64 (m0 + 1) = m0 + 1 from w64 (by omega) (by omega)]
  · rw [laws_markGotS.l0, if_neg (by omega)]
  · intro _ k l2 m hl2
    rw [laws_heldGotS.l0, if_neg (by omega)]
  · obtain ⟨r, g1, g2, g3, g4, _, g6⟩ := HM
    refine ⟨m2, r, by unfold laws_markGotS.f; exact g1, g2, by omega, fun k' hk' => by unfold laws_heldGotS.f; exact g6 trivial k' (by omega)⟩
theorem mk_49 (x : (List Int)) (h : (x.length ≤ 1048576 ∧ ∀ e ∈ x, True)) (m : Int) (h0 : 0 < m) (h1 : m + 1048577 ≤ 4611686018427387904) (k : Nat) (hk : 1048577 ≤ k) : ∃ m2 r, laws_markIntS.f k x m = some (m2, r) ∧ m ≤ m2 ∧ m2 ≤ m + 1048577 ∧ (∀ k, 1048577 ≤ k → laws_heldIntS.f k r m = some m2) := by
  have hx := h.1
  have hw : (1 : Int) * ((x.length - 0 : Nat) : Int) ≤ 1048576 := by omega
  refine Exists.elim (mark_loop True laws_markIntS.l0 laws_heldIntS.l0 x (fun e => True) 0 1 4611686018427387903 hx (fun k l m i e hK hi hl hle hp hm0 hm1 => ?_) (fun k l m => ?_) ?_ x.length k x m 0 rfl (Nat.zero_le _) rfl (fun j e _ he => h.2 e (List.mem_of_getElem? he)) h0 (by omega) (by omega)) (fun m2 HM => ?_)
  · have c1 : (i : Int) < (x.length : Int) := by omega
    have c0 : 0 ≤ (i : Int) := by omega
    have ew : wrap64 ((i : Int) + 1) = ((i + 1 : Nat) : Int) := by rw [w64 (by omega) (by omega)]; rfl
    have re : rd l (i : Int) = e := by rw [rdI l i (by omega)]; exact Option.some.inj ((List.getElem?_eq_getElem (by omega)).symm.trans hle)
    have rs : ∀ y, rd (l.set i y) (i : Int) = y := fun y => by rw [rdI _ i (by rw [List.length_set]; omega), List.getElem_set_self]
    refine ⟨m, m + 1, ?_, by omega, by omega, fun _ k' l2 hK' hl2 he2 => ?_⟩
    · rw [laws_markIntS.l0]
      simp only [lets, c1, c0, ew, re, rs, Int.toNat_natCast, List.set_set, if_true, Option.bind_some, show wrap64 (m + 1) = m + 1 from w64 (by omega) (by omega)]
    · have c2 : (i : Int) < (l2.length : Int) := by omega
      have re2 : rd l2 (i : Int) = m := by rw [rdI l2 i (by omega)]; exact Option.some.inj ((List.getElem?_eq_getElem (by omega)).symm.trans he2)
      rw [laws_heldIntS.l0]
      simp only [c2, c0, ew, re2, if_true, if_false, Option.bind_some, show wrap64 (m + 1) = m + 1 from w64 (by omega) (by omega)]
  · rw [laws_markIntS.l0, if_neg (by omega)]
  · intro _ k l2 m hl2
    rw [laws_heldIntS.l0, if_neg (by omega)]
  · obtain ⟨r, g1, g2, g3, g4, _, g6⟩ := HM
    refine ⟨m2, r, by unfold laws_markIntS.f; exact g1, g2, by omega, fun k' hk' => by unfold laws_heldIntS.f; exact g6 trivial k' (by omega)⟩
theorem mk_12 (x : S31) (h : sm31 x) (m : Int) (h0 : 0 < m) (h1 : m + 2305851805330833425 ≤ 4611686018427387904) (k : Nat) (hk : 3145795 ≤ k) : ∃ m2 r0 r1 r2, laws_markClient.f k x m = some (m2, r0, r1, r2) ∧ m ≤ m2 ∧ m2 ≤ m + 2305851805330833425 ∧ (∀ k, 3145795 ≤ k → laws_heldClient.f k (⟨x.f0, x.f1, r0, r1, r2⟩ : S31) m = some m2) := by
  obtain ⟨m0, r0_0, e0, a0, b0, c0⟩ := mk_47 x.f2 h.2.2.1 m (by omega) (by omega) k (by omega)
  obtain ⟨m1, r1_0, e1, a1, b1, c1⟩ := mk_48 x.f3 h.2.2.2.1 m0 (by omega) (by omega) k (by omega)
  obtain ⟨m2, r2_0, e2, a2, b2, c2⟩ := mk_49 x.f4 h.2.2.2.2.1 m1 (by omega) (by omega) k (by omega)
  refine ⟨m2, r0_0, r1_0, r2_0, ?_, by omega, by omega, fun k hk => ?_⟩
  · unfold laws_markClient.f
    simp only [e0, e1, e2, Option.bind_some]
  · unfold laws_heldClient.f
    simp only [c0 k (by omega), c1 k (by omega), c2 k (by omega), show ¬ m0 < 0 by omega, show ¬ m1 < 0 by omega, show ¬ m2 < 0 by omega, if_false, Option.bind_some]
def sm75 (x : S75) : Prop := (x.f0.length ≤ 1048576 ∧ ∀ e ∈ x.f0, e.size ≤ 1048576) ∧ True ∧ True ∧ True ∧ True ∧ True ∧ True
def wt75 (x : S75) : Nat := (x.f0.length + (x.f0.map ByteArray.size).sum)
theorem szw_30 (x : S75) (hx : ok75 x) (b : Int) (h0 : 0 ≤ b) (h1 : b ≤ 1048576) (k : Nat) (hk : 1048577 ≤ k) : ∃ n, laws_szAsk.f k x b = some n ∧ n ≤ b ∧ (0 ≤ n → sm75 x ∧ n + (wt75 x : Int) = b) := by
  have hm : maxLen = 9223372036854775807 := rfl
  unfold laws_szAsk.f
  obtain ⟨n0, e0, b0, p0⟩ := szw_90 x.f0 (hx.1) b (by omega) (by omega) k (by omega)
  rw [e0, Option.bind_some]
  by_cases c0 : n0 < 0
  · rw [if_pos c0]; exact ⟨-1, rfl, by omega, fun h => by omega⟩
  rw [if_neg c0]
  exact ⟨n0, rfl, by omega, fun h => ⟨⟨(p0 (by omega)).1, trivial, trivial, trivial, trivial, trivial, trivial⟩, by have w0 := (p0 (by omega)).2; unfold wt75; omega⟩⟩
theorem sz_30 (x : S75) (hx : ok75 x) (b : Int) (h0 : 0 ≤ b) (h1 : b ≤ 1048576) (k : Nat) (hk : 1048577 ≤ k) : ∃ n, laws_szAsk.f k x b = some n ∧ n ≤ b ∧ (0 ≤ n → sm75 x) := by
  obtain ⟨n, g1, g2, g3⟩ := szw_30 x hx b h0 h1 k hk
  exact ⟨n, g1, g2, fun h => (g3 h).1⟩
def cv75 (x : S75) : S79 := ⟨x.f0, x.f1, x.f2, x.f3, x.f4, x.f5⟩
def sm79 (x : S79) : Prop := (x.f0.length ≤ 1048576 ∧ ∀ e ∈ x.f0, e.size ≤ 1048576) ∧ True ∧ True ∧ True ∧ True ∧ True ∧ True
theorem to_32 (x : S75) (h : sm75 x) (k : Nat) (hk : 1048577 ≤ k) : laws_toAsk.f k x = some (cv75 x) := by
  unfold laws_toAsk.f
  simp only [to_94 x.f0 h.1 k (by omega), Option.bind_some]
  rfl
theorem smcv75 (x : S75) (h : sm75 x) : sm79 (cv75 x) := ⟨h.1, h.2.1, h.2.2.1, h.2.2.2.1, h.2.2.2.2.1, h.2.2.2.2.2.1, trivial⟩
theorem eq_34 (x : S79) (h : sm79 x) (k : Nat) (hk : 1048577 ≤ k) : laws_eqAsk.f k x x = some true := by
  unfold laws_eqAsk.f
  simp [eq_100 x.f0 h.1 k (by omega)]
theorem mk_35 (x : S79) (h : sm79 x) (m : Int) (h0 : 0 < m) (h1 : m + 1048577 ≤ 4611686018427387904) (k : Nat) (hk : 1048641 ≤ k) : ∃ m2 r0, laws_markAsk.f k x m = some (m2, r0) ∧ m ≤ m2 ∧ m2 ≤ m + 1048577 ∧ True := by
  obtain ⟨m0, r0_0, e0, a0, b0, c0⟩ := mk_101 x.f0 h.1 m (by omega) (by omega) k (by omega)
  refine ⟨m0, r0_0, ?_, by omega, by omega, trivial⟩
  · unfold laws_markAsk.f
    simp only [e0, Option.bind_some]
end Go.Proofs.Ytoaoncnbimcdgaa.FamFnExactAskNow
