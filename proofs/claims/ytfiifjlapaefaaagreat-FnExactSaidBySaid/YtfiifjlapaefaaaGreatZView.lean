/- What a call that writes in some parts may rely on of what was there before; rows that are cut; cells that are cleared. Plain lemmas, no condition. -/
import Derived.Test.YtfiifjlapaefaaaGreatZStr
import Derived.Lib.SliceRun
import Derived.Laws.Cover1
namespace Go.Proofs.YtfiifjlapaefaaaGreat.Z
open Go.RowKit Go.Proofs.YtfiifjlapaefaaaGreatW.PrintWords Go.Proofs.YtfiifjlapaefaaaGreatW.PrintLast

theorem cell_lt {w : World} {a : Addr} {v : Value} (e : w.cell? a = some v) : a.block < w.heap.size := by
  unfold World.cell? at e
  split at e
  · rename_i hc
    exact (Array.getElem?_eq_some_iff.1 hc).1
  all_goals cases e
/-- A kind of values is read the same where there are more cells. -/
def Up {α : Type} (d : Kd α) : Prop := ∀ {w w1 : World}, (∀ a v, w.cell? a = some v → w1.cell? a = some v) → ∀ {x cs}, d.K w x cs → d.K w1 x cs
theorem up_int {k : IntKind} : Up (Kd.int k) := fun _ _ _ h => h
theorem up_bool : Up Kd.bool := fun _ _ _ h => h
theorem up_string : Up Kd.string := fun _ _ _ h => h
theorem up_C {α : Type} {d : Kd α} (hd : Up d) {w w1 : World} (hc : ∀ a v, w.cell? a = some v → w1.cell? a = some v) {B : Option Addr} {n : Nat} {xs : List α} (h : d.C w B n xs) : d.C w1 B n xs := by
  refine ⟨h.1, h.2.1, fun hn => ?_⟩
  obtain ⟨ad, e, g⟩ := h.2.2 hn
  refine ⟨ad, e, fun j p hj => ?_⟩
  obtain ⟨c, c1, c2, c3⟩ := g j p hj
  exact ⟨c, c1, hd hc c2, fun i u hu => hc _ _ (c3 i u hu)⟩
theorem up_slice {α : Type} {d : Kd α} (e : Nat) (hd : Up d) : Up (Kd.slice e d) := by
  rintro w w1 hc xs cs ⟨A, c, rfl, hl, hr⟩
  exact ⟨A, c, rfl, hl, up_C hd hc hr⟩
theorem up_pair {α β : Type} {a : Kd α} {b : Kd β} (ha : Up a) (hb : Up b) : Up (Kd.pair a b) := by
  rintro w w1 hc x cs ⟨c0, c1, rfl, h0, h1⟩
  exact ⟨c0, c1, rfl, ha hc h0, hb hc h1⟩
theorem up_iso {α β : Type} {d : Kd α} (f : β → α) (hd : Up d) : Up (Kd.iso d f) := fun hc _ _ h => hd hc h
theorem up_upto {α : Type} {F : Kd α → Kd α} {sz : Nat} {E : List Nat} (h : ∀ d, Up d → Up (F d)) : ∀ n, Up (Kd.upto F sz E n)
  | 0 => fun _ _ _ h => h.elim
  | n + 1 => h _ (up_upto h n)
theorem up_fix {α : Type} {F : Kd α → Kd α} {sz : Nat} {E : List Nat} {hs : ∀ n, (Kd.upto F sz E n).sz = sz} {hE : ∀ n q, q ∈ (Kd.upto F sz E n).E → q ∈ E} (h : ∀ d, Up d → Up (F d)) : Up (Kd.fix F sz E hs hE) := by
  rintro w w1 hc x cs ⟨n, hn⟩
  exact ⟨n, up_upto h n hc hn⟩

/-- What can be read in wv is there, and none of it may be written. -/
def View (A : FP) (w wv : World) : Prop := ∀ a v, wv.cell? a = some v → w.cell? a = some v ∧ ¬ A a.block
section
variable {A A' : FP} {w0 w wv : World} {rs : List Res}
theorem Hp.cell {a : Addr} {v : Value} (h : Hp A w0 w rs) (e : w0.cell? a = some v) (hA : ¬ A a.block) : w.cell? a = some v := by
  have hk := h.kept a.block (cell_lt e) hA
  unfold World.cell? at e ⊢
  rw [hk]
  exact e
theorem View.keepc (V : View A w0 wv) (h : Hp A w0 w rs) {a : Addr} {v : Value} (e : wv.cell? a = some v) : w.cell? a = some v := h.cell (V a v e).1 (V a v e).2
theorem View.lend (V : View A w0 wv) (h : Hp A w0 w rs) (HL : ∀ k, A' k → A k ∨ w0.heap.size ≤ k) : View A' w wv :=
  fun a v e => ⟨V.keepc h e, fun hA => (HL _ hA).elim (V a v e).2 (fun h => absurd (cell_lt (V a v e).1) (by omega))⟩
theorem Hp.view (h : Hp noFP w0 w rs) (HL : ∀ k, A' k → noFP k ∨ w0.heap.size ≤ k) : View A' w w0 :=
  fun a v e => ⟨h.keepc e, fun hA => (HL _ hA).elim (fun h => h) (fun h => absurd (cell_lt e) (by omega))⟩
theorem View.ro {α : Type} {d : Kd α} (hd : Up d) {B : Option Addr} {n : Nat} {xs : List α} (V : View A w0 wv) (h : Hp A w0 w rs) (hc : d.C wv B n xs) : d.C w B n xs := up_C hd (fun _ _ e => V.keepc h e) hc
/-- Lists of parts and of cells, written out. -/
theorem hpn.{u} : (∀ {α : Type u} (a b : α) (l : List α), (a :: l).set 0 b = b :: l) ∧ (∀ {α : Type u} (a b : α) (n : Nat) (l : List α), (a :: l).set (n + 1) b = a :: l.set n b) ∧ (∀ {α : Type u} (a : α) (l m : List α), (a :: l) ++ m = a :: (l ++ m)) ∧ (∀ {α : Type u} (l : List α), [] ++ l = l) :=
  ⟨fun _ _ _ => rfl, fun _ _ _ _ => rfl, fun _ _ _ => rfl, fun _ => rfl⟩
theorem hpm : (∀ l : List Value, wrt l 0 [] = l) ∧ (∀ (a s : Value) (l ss : List Value), wrt (a :: l) 0 (s :: ss) = s :: wrt l 0 ss) ∧ (∀ (a : Value) (n : Nat) (l ss : List Value), wrt (a :: l) (n + 1) ss = a :: wrt l n ss) ∧
    (∀ rs ps : List Res, back rs [] ps = rs ++ ps) ∧ (∀ (i : Nat) (p : Res) (rs ps : List Res) (is : List Nat), back rs (i :: is) (p :: ps) = back (rs.set i p) is ps) ∧ (∀ rs : List Res, clr rs [] = rs) ∧ (∀ (rs : List Res) (j : Nat) (js : List Nat), clr rs (j :: js) = clr (rs.set j .emp) js) :=
  ⟨fun l => by cases l <;> rfl, fun _ _ _ _ => rfl, fun _ n _ ss => by cases ss <;> rfl, fun _ _ => by rw [back], fun _ _ _ _ _ => by rw [back], fun _ => rfl, fun _ _ _ => rfl⟩
/-- Arrays of values, written out. -/
theorem ptn : (∀ (l : List Value) (i : Nat) (a : Value), l.toArray.setIfInBounds i a = (l.set i a).toArray) ∧ (∀ (a b : Value) (l : List Value), (a :: l).set 0 b = b :: l) ∧ (∀ (a b : Value) (n : Nat) (l : List Value), (a :: l).set (n + 1) b = a :: l.set n b) ∧ (∀ n : Int, IntKind.i64.wrap n = wrap64 n) ∧ (∀ n : Int, IntKind.i32.wrap n = wrap32 n) :=
  ⟨fun _ _ _ => List.setIfInBounds_toArray .., fun _ _ _ => rfl, fun _ _ _ _ => rfl, i64_w, i32_w⟩
theorem mpn : (∀ {α β : Type} (f : α → β) (l : List α), l.toArray.map f = (l.map f).toArray) ∧ (∀ {α β : Type} (f : α → β) (a : α) (l : List α), (a :: l).map f = f a :: l.map f) ∧ (∀ {α β : Type} (f : α → β), ([] : List α).map f = []) :=
  ⟨fun _ _ => List.map_toArray .., fun _ _ _ => rfl, fun _ => rfl⟩
/-- What boxes hold. -/
theorem bxn : (∀ w : World, boxFacts w [] = True) ∧ (∀ (w : World) (g : Nat) (cs : List Value) (t : TypeId) (rs : List Res), boxFacts w (.box g cs t :: rs) = (((∀ i, w.cell? ⟨g, i, none⟩ = cs[i]?) ∧ (∀ i, w.frozen? ⟨g, i, none⟩ = false)) ∧ boxFacts w rs)) ∧ (∀ (w : World) (rs : List Res), boxFacts w (.emp :: rs) = boxFacts w rs) ∧
    (∀ (w : World) {α : Type} (d : Zd α) (x : α) (cs : List Value) (rs : List Res), boxFacts w (.own d x cs :: rs) = boxFacts w rs) ∧ (∀ p : Prop, (p ∧ True) = p) :=
  ⟨fun _ => rfl, fun _ _ _ _ _ => rfl, fun _ _ => rfl, fun _ _ _ _ _ _ => rfl, fun p => and_true p⟩
/-- Flags that are known. -/
theorem dcn : (∀ h : Decidable True, @decide True h = true) ∧ (∀ h : Decidable False, @decide False h = false) ∧ (!true) = false ∧ (!false) = true := ⟨fun _ => decide_eq_true trivial, fun _ => decide_eq_false id, rfl, rfl⟩
/-- One of two rows, as a flag says. -/
theorem join_row {α : Type} {d : Kd α} {w : World} {b : Bool} {y xs1 xs2 : List α} {B1 B2 : Option Addr} {n1 c1 n2 c2 : Nat} (e : y = cond b xs1 xs2) (h1 : d.C w B1 n1 xs1) (l1 : n1 ≤ c1) (h2 : d.C w B2 n2 xs2) (l2 : n2 ≤ c2) :
    ∃ (B : Option Addr) (c : Nat), cond b (Value.slice B1 n1 c1) (Value.slice B2 n2 c2) = Value.slice B y.length c ∧ y.length ≤ c ∧ d.C w B y.length y := by
  subst e
  obtain rfl := C_len h1
  obtain rfl := C_len h2
  cases b
  · exact ⟨B2, c2, rfl, l2, h2⟩
  · exact ⟨B1, c1, rfl, l1, h1⟩
/-- A world without the blocks of A. -/
noncomputable def hide (A : FP) (w : World) : World := by
  classical
  exact { w with heap := w.heap.mapIdx fun k o => if A k then Obj.cells #[] 0 (0, 0) else o }
theorem hide_block (A : FP) (w : World) (k : Nat) (h : ¬ A k) : (hide A w).heap[k]? = w.heap[k]? := by
  unfold hide
  simp only [Array.getElem?_mapIdx, h, if_false]
  cases w.heap[k]? <;> rfl
theorem hide_size (A : FP) (w : World) : (hide A w).heap.size = w.heap.size := by unfold hide; simp
theorem hide_view (A : FP) (w : World) : View A w (hide A w) := by
  intro a v e
  by_cases h : A a.block
  · exfalso
    have hb : (hide A w).heap[a.block]? = (w.heap[a.block]?).map (fun _ => Obj.cells #[] 0 (0, 0)) := by
      unfold hide
      simp only [Array.getElem?_mapIdx, h, if_true]
    unfold World.cell? at e
    rw [hb] at e
    cases hw : w.heap[a.block]? with
    | none => rw [hw] at e; cases e
    | some o => rw [hw] at e; simp at e
  · refine ⟨?_, h⟩
    unfold World.cell? at e ⊢
    rw [hide_block A w _ h] at e
    exact e
theorem hide_cell {a : Addr} {v : Value} (e : w.cell? a = some v) (h : ¬ A a.block) : (hide A w).cell? a = some v := by
  unfold World.cell? at e ⊢
  rw [hide_block A w _ h]
  exact e
section
variable {is : List Nat} (HD : ∀ (i : Nat) (r : Res), i ∉ is → rs[i]? = some r → ∃ S : FP, (∀ k, S k → ¬ A' k) ∧ r.holds w S)
include HD
theorem hide_rd {α : Type} {d : Zd α} {e n c : Nat} {B : Option Addr} {xs : List α} (i : Nat) (hi : rs[i]? = some (.own (Zd.slice e d) xs [.slice B n c])) (hn : i ∉ is) : d.kd.C (hide A' w) B n xs := by
  obtain ⟨S, h1, h2⟩ := HD i _ hn hi
  have h3 : (Zd.slice e d).M (hide A' w) S xs [.slice B n c] := (Zd.slice e d).keep (fun k hk _ => hide_block A' w k (h1 k hk)) h2
  obtain ⟨B', c', he, _, hc⟩ := (Zd.slice e d).of_M h3
  injection he with he
  injection he with e1 e2 e3
  subst e1; subst e2
  exact hc
theorem hide_box {g : Nat} {cs : List Value} {t : TypeId} (i : Nat) (hi : rs[i]? = some (.box g cs t)) (hn : i ∉ is) {j : Nat} {v : Value} (hj : cs[j]? = some v) : (hide A' w).cell? ⟨g, j, none⟩ = some v := by
  obtain ⟨S, h1, h2, h3⟩ := HD i _ hn hi
  refine hide_cell ?_ (h1 g h2)
  rw [blk_cell h3 j]
  simpa using hj
end
theorem Hp.hidec (h : Hp noFP w0 w rs) (HL : ∀ k, A' k → noFP k ∨ w0.heap.size ≤ k) {a : Addr} {v : Value} (e : w0.cell? a = some v) : (hide A' w).cell? a = some v :=
  hide_cell (h.keepc e) (fun hA => (HL _ hA).elim (fun h => h) (fun h => absurd (cell_lt e) (by omega)))
theorem Hp.hideC {α : Type} {d : Kd α} (hd : Up d) {B : Option Addr} {n : Nat} {xs : List α} (h : Hp noFP w0 w rs) (HL : ∀ k, A' k → noFP k ∨ w0.heap.size ≤ k) (hc : d.C w0 B n xs) : d.C (hide A' w) B n xs := up_C hd (fun _ _ e => h.hidec HL e) hc
theorem View.hidec (V : View A w0 wv) (h : Hp A w0 w rs) (HL : ∀ k, A' k → A k ∨ w0.heap.size ≤ k) {a : Addr} {v : Value} (e : wv.cell? a = some v) : (hide A' w).cell? a = some v :=
  hide_cell (V.keepc h e) (fun hA => (HL _ hA).elim (V a v e).2 (fun h => absurd (cell_lt (V a v e).1) (by omega)))
theorem View.hideC {α : Type} {d : Kd α} (hd : Up d) {B : Option Addr} {n : Nat} {xs : List α} (V : View A w0 wv) (h : Hp A w0 w rs) (HL : ∀ k, A' k → A k ∨ w0.heap.size ≤ k) (hc : d.C wv B n xs) : d.C (hide A' w) B n xs := up_C hd (fun _ _ e => V.hidec h HL e) hc
theorem C_zero {α : Type} {d : Kd α} {B : Option Addr} (w : World) : d.C w B 0 [] := ⟨rfl, by omega, fun h => absurd h (by omega)⟩
end

section
variable {P : Program} {ops : Array Oper} {rest : List Oper} {o : Oper} {a : Act} {Q : Exit → Act → World → Prop} {A : FP} {w0 W : World} {rs : List Res} {K : Act → World → Prop}
theorem gate_clear {x : Operand} {ts : Array TypeId} (_ho : o.op = .call { callee := .builtin .clear, args := #[x], argTypes := ts }) (h : wpList P ops Q (o :: rest) a W) : wpList P ops Q (o :: rest) a W := h
theorem elem_of {t e : TypeId} (ht : P.underlying t = some (.slice e)) : P.underlying t = some (.slice (P.elem t)) := by
  have : P.elem t = e := by unfold Program.elem; rw [ht]
  rw [this]; exact ht
theorem size_run {t e : TypeId} {z : Option Value} {size bytes : Nat} (ht : P.underlying t = some (.slice e)) (hinfo : (P.info? e).map (fun i => (i.zero, i.size, i.bytes)) = some (z, size, bytes)) : (sizeOf (P.elem t)).run P W = .ok size W := by
  have h1 : P.elem t = e := by unfold Program.elem; rw [ht]
  obtain ⟨i0, hi, hzz⟩ := Option.map_eq_some_iff.1 hinfo
  simp only [Prod.mk.injEq] at hzz
  rw [h1]
  simp [sizeOf, typeInfo, hi, hzz.2.1]
/-- x[l:] -/
def cutl (B : Option Addr) (l n c s : Nat) : Value := sliced B l n c s
theorem run_cutl {t e : TypeId} {x lo : Operand} {B : Option Addr} {n c : Nat} {l : Int} {z : Option Value} {size bytes : Nat} (ho : o.op = .slice t x (some lo) none none) (hx : a.eval x = .slice B n c) (hlo : a.eval lo = .int .i64 l) (ht : P.underlying t = some (.slice e))
    (hinfo : (P.info? e).map (fun i => (i.zero, i.size, i.bytes)) = some (z, size, bytes)) (h0 : 0 ≤ l) (h1 : l ≤ n) : (execOp a.eval o).run P W = .ok (.value (cutl B l.toNat n c size)) W := by
  have hs := size_run (P := P) (W := W) ht hinfo
  have hr : (Instr.sliceAt t (.slice B n c) (some (.int .i64 l)) none none).run P W = .ok (sliced B l.toNat n c size) W := by
    rw [run_sliceAt_slice W t _ _ _ _ (elem_of ht), run_slice_l W t B n c (elem_of ht) .i64 l h0 h1, hs]
    rfl
  unfold execOp
  simp only [ho, hx, Option.map_some, Option.map_none, hlo, Sem.run_bind, Sem.run_pure, Result.andThen_ok, hr]
  rfl
theorem Row.cut {α : Type} {d : Zd α} {e n c : Nat} {w : World} {S : FP} {B : Option Addr} {xs : List α} (l : Nat) (hl : l ≤ xs.length) (h : Row d e w S (.slice B n c) xs) : Row d e w S (.slice B l c) (xs.take l) := by
  obtain ⟨inner, ho, hS, T, h1, h2, h3⟩ := h
  have hlen : (xs.take l).length = l := by rw [List.length_take]; omega
  have hmul : l * d.kd.sz ≤ xs.length * d.kd.sz := Nat.mul_le_mul_right _ hl
  refine ⟨inner.take (l * d.kd.sz), ?_, fun g hg => hS g (by revert hg; cases B <;> simp [Value.ownBlock]), T, fun j k hk => ⟨(h1 j k hk).1, fun hg => (h1 j k hk).2 (by revert hg; cases B <;> simp [Value.ownBlock])⟩, h2, fun j x hx => ?_⟩
  · obtain ⟨ho1, ho2⟩ := ho
    refine ⟨by rw [List.length_take, hlen]; omega, ?_⟩
    rcases ho2 with ⟨hv, hn⟩ | ⟨g, cap, cur, hv, hb, hh, hnc, hcm, hcs, hin⟩
    · injection hv with e1 e2 e3
      subst e1; subst e3
      obtain rfl : l = 0 := by omega
      exact .inl ⟨rfl, hlen⟩
    · injection hv with e1 e2 e3
      subst e1; subst e2; subst e3
      refine .inr ⟨g, c, cur, by rw [hlen], hb, hh, by omega, hcm, hcs, ?_⟩
      rw [← hin, List.take_take, hlen]
      congr 1
      omega
  · rw [List.getElem?_take] at hx
    split at hx
    · rename_i hj
      have h4 := h3 j x hx
      have h5 : (List.take d.kd.sz (List.drop (j * d.kd.sz) (inner.take (l * d.kd.sz)))) = List.take d.kd.sz (List.drop (j * d.kd.sz) inner) := by
        have h6 : j * d.kd.sz + d.kd.sz ≤ l * d.kd.sz := by rw [← Nat.succ_mul]; exact Nat.mul_le_mul_right _ hj
        rw [List.drop_take, List.take_take, Nat.min_eq_left (by omega)]
      rw [h5]
      exact h4
    · cases hx
/-- x[:h] of a row of one's own: the row is no longer than that. -/
theorem Hp.cutrow {α : Type} {d : Zd α} {e n c : Nat} {B : Option Addr} {xs : List α} (r : Nat) (l : Int) (h : Hp A w0 W rs) (hr : rs[r]? = some (.own (Zd.slice e d) xs [.slice B n c])) (h0 : 0 ≤ l) (h1 : l ≤ (xs.length : Int)) :
    Hp A w0 W (rs.set r (.own (Zd.slice e d) (xs.take l.toNat) [.slice B l.toNat c])) := by
  refine h.upd r hr ⟨rfl, rfl, rfl, Nat.le_refl _⟩ fun S hS hl => ⟨S, ?_, fun k hk => ⟨.inl hk, hl k hk⟩, fun _ _ _ => rfl⟩
  obtain ⟨v, hv, hrow⟩ := hS
  injection hv with hv
  subst hv
  exact ⟨_, rfl, Row.cut l.toNat (by omega) hrow⟩
/-- clear(x[l:]), numbers. -/
theorem wp_clear (r : Nat) (HS : Hp A w0 W rs) {k : IntKind} {t e : TypeId} {x : Operand} {B : Option Addr} {n c : Nat} {l : Int} {xs : List Int} (hr : rs[r]? = some (.own (Zd.slice e (Zd.int k)) xs [.slice B n c])) (hN : o.dst = none) (ho : o.op = .call { callee := .builtin .clear, args := #[x], argTypes := #[t] }) (hx : a.eval x = cutl B l.toNat n c 1) (ht : P.underlying t = some (.slice e))
    (hv : ∀ w, (zeroValue e).run P w = .ok (.int k 0) w) (h0 : 0 ≤ l) (h1 : l < (xs.length : Int))
    (h : ∀ w1, Hp A w0 w1 (rs.set r (.own (Zd.slice e (Zd.int k)) (xs.take l.toNat ++ List.replicate (xs.length - l.toNat) 0) [.slice B n c])) → K a w1) : Oper.wp P o a W K Q := by
  obtain ⟨i, rfl⟩ : ∃ i : Nat, l = i := ⟨l.toNat, by omega⟩
  rw [Int.toNat_natCast] at hx h
  obtain ⟨sS, hsl, ⟨v, hvv, hrow⟩⟩ := HS.has hr
  injection hvv with hvv
  subst hvv
  obtain ⟨inner, hoo, hS, T, t1, t2, t3⟩ := hrow
  rcases hoo with ⟨hl, ⟨hv', hn0⟩ | ⟨g, cap, cur, hv', hb, hh, hnc, hcm, hcs, hin⟩⟩
  · omega
  injection hv' with e1 e2 e3
  subst e1; subst e2; subst e3
  have hsz : (Zd.int k).kd.sz = 1 := rfl
  rw [hsz, Nat.mul_one] at hl hcs hin
  have hxi : a.eval x = .slice (some ⟨g, i, none⟩) (xs.length - i) (c - i) := by
    rw [hx]
    unfold cutl sliced
    rw [if_neg (by omega)]
    rcases Nat.eq_zero_or_pos i with h2 | h2
    · subst h2; simp [Addr.add]
    · simp [Addr.add]; omega
  have hcl := Go.Lib.run_clear_slice (P := P) W t e o.type (.int k 0) ht hv rfl rfl g i (xs.length - i) (c - i) (by omega)
    (fun j hj => by
      rw [blk_cell hh (i + j)]
      simp; omega) (fun j hj => blk_frozen hh (i + j))
  have hrun : (execOp a.eval o).run P W = .ok (.value (.tuple #[])) (W.setCells g i (List.replicate (xs.length - i) (.int k 0))) := by
    unfold execOp
    simp [ho, resolve, invoke, builtin, hxi, hcl]
  refine wp_run hrun ?_
  rw [hN]
  have hfit : i + (List.replicate (xs.length - i) (Value.int k 0)).length ≤ cur.size := by rw [List.length_replicate]; omega
  obtain ⟨cur', hc1, hc2, hc3⟩ := setCells_row (List.replicate (xs.length - i) (Value.int k 0)) i W cur hh hfit
  obtain ⟨s1, s2, s3, s4⟩ := setCells_same g (List.replicate (xs.length - i) (Value.int k 0)) i W
  refine h _ (HS.upd r hr ⟨s1, s2, s3, by omega⟩ fun S hS' hl' => ?_)
  obtain ⟨v, hvv, hrow⟩ := hS'
  injection hvv with hvv
  subst hvv
  obtain ⟨inner', hoo', hS2, T', t1', t2', t3'⟩ := hrow
  have hg : S g := hS2 g rfl
  have hlx : (xs.take i ++ List.replicate (xs.length - i) (0 : Int)).length = xs.length := by rw [List.length_append, List.length_take, List.length_replicate]; omega
  have hcl' : cur.toList.length = c := by rw [Array.length_toList]; exact hcs
  have hin' : cur'.toList.take xs.length = (xs.take i ++ List.replicate (xs.length - i) (0 : Int)).map (Value.int k) := by
    have hxs : inner = xs.map (Value.int k) := by
      apply List.ext_getElem
      · rw [hl, List.length_map]
      · intro j h2 h3
        have hj : j < xs.length := by rwa [List.length_map] at h3
        have h4 : List.take 1 (List.drop (j * 1) inner) = [Value.int k xs[j]] := t3 j xs[j] (List.getElem?_eq_getElem hj)
        rw [Nat.mul_one, List.drop_eq_getElem_cons h2, List.take_succ_cons, List.take_zero] at h4
        rw [List.getElem_map]
        injection h4
    have h7 : (List.take i cur.toList ++ List.replicate (xs.length - i) (Value.int k 0)).length = xs.length := by rw [List.length_append, List.length_take, List.length_replicate, hcl']; omega
    rw [hc3, List.take_left' h7, List.map_append, List.map_replicate, List.map_take]
    congr 1
    rw [← hxs, ← hin, List.take_take, Nat.min_eq_left (by omega)]
  refine ⟨S, ⟨_, rfl, (xs.take i ++ List.replicate (xs.length - i) (0 : Int)).map (Value.int k), ⟨by rw [List.length_map, hlx, hsz, Nat.mul_one], .inr ⟨g, c, cur', by rw [hlx], Nat.zero_le _, hc1, by rw [hlx]; exact hnc, hcm, by rw [hc2, hcs, hsz, Nat.mul_one], by rw [hlx, hsz, Nat.mul_one]; exact hin'⟩⟩, fun g' hg' => hS2 g' hg', fun _ _ => False, fun _ _ h => h.elim, fun _ _ _ _ h => h.elim, fun j x hj => ?_⟩, fun k' hk' => ⟨.inl hk', by have := hl' k' hk'; omega⟩, fun k' _ hn => setCells_far _ i k' (fun he => hn (he ▸ hg))⟩
  show List.take 1 (List.drop (j * 1) _) = [Value.int k x]
  have hj' : j < (xs.take i ++ List.replicate (xs.length - i) (0 : Int)).length := (List.getElem?_eq_some_iff.1 hj).1
  have e1 : (xs.take i ++ List.replicate (xs.length - i) (0 : Int))[j] = x := by rw [List.getElem?_eq_getElem hj'] at hj; injection hj
  rw [Nat.mul_one, List.drop_eq_getElem_cons (by rw [List.length_map]; exact hj')]
  simp only [List.getElem_map, e1, List.take_succ_cons, List.take_zero]
theorem ev_clear (hgd : o.guard = none) (r : Nat) (HS : Hp A w0 W rs) {k : IntKind} {t e : TypeId} {x : Operand} {B : Option Addr} {n c : Nat} {l : Int} {xs : List Int} (hr : rs[r]? = some (.own (Zd.slice e (Zd.int k)) xs [.slice B n c])) (hN : o.dst = none) (ho : o.op = .call { callee := .builtin .clear, args := #[x], argTypes := #[t] }) (hx : a.eval x = cutl B l.toNat n c 1) (ht : P.underlying t = some (.slice e))
    (hv : ∀ w, (zeroValue e).run P w = .ok (.int k 0) w) (h0 : 0 ≤ l) (h1 : l < (xs.length : Int))
    (h : ∀ w1, Hp A w0 w1 (rs.set r (.own (Zd.slice e (Zd.int k)) (xs.take l.toNat ++ List.replicate (xs.length - l.toNat) 0) [.slice B n c])) → wpList P ops Q rest a w1) : wpList P ops Q (o :: rest) a W := wpList_plain hgd fun _ hK => wp_clear r HS hr hN ho hx ht hv h0 h1 (fun w1 h2 => hK _ _ (h w1 h2))
end
end Go.Proofs.YtfiifjlapaefaaaGreat.Z
