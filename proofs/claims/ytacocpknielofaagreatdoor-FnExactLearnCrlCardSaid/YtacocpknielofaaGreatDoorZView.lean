/- What a call that writes in some parts may rely on of what was there before; rows that are cut; cells that are cleared. Plain lemmas, no condition. -/
import Derived.Test.YtacocpknielofaaGreatDoorZStr
import Derived.Lib.SliceRun
import Derived.Laws.Cover1
namespace Go.Proofs.YtacocpknielofaaGreatDoor.Z
open Go.RowKit YtacocpknielofaaGreatDoorW.PrintWords YtacocpknielofaaGreatDoorW.PrintLast
theorem cell_lt {w : World} {a : Addr} {v : Value} (e : w.cell? a = some v) : a.block < w.heap.size := by
  unfold World.cell? at e
  split at e
  · rename_i hc
    exact (Array.getElem?_eq_some_iff.1 hc).1
  all_goals cases e
section
variable {A A' : FP} {w0 w wv : World} {rs : List Res}
theorem Hp.cell {a : Addr} {v : Value} (h : Hp A w0 w rs) (e : w0.cell? a = some v) (hA : ¬ A a.block) : w.cell? a = some v := by
  have hk := h.kept a.block (cell_lt e) hA
  unfold World.cell? at e ⊢
  rw [hk]
  exact e
theorem hpn.{u} : (∀ {α : Type u} (a b : α) (l : List α), (a :: l).set 0 b = b :: l) ∧ (∀ {α : Type u} (a b : α) (n : Nat) (l : List α), (a :: l).set (n + 1) b = a :: l.set n b) ∧ (∀ {α : Type u} (a : α) (l m : List α), (a :: l) ++ m = a :: (l ++ m)) ∧ (∀ {α : Type u} (l : List α), [] ++ l = l) :=
  ⟨fun _ _ _ => rfl, fun _ _ _ _ => rfl, fun _ _ _ => rfl, fun _ => rfl⟩
theorem hpm : (∀ l : List Value, wrt l 0 [] = l) ∧ (∀ (a s : Value) (l ss : List Value), wrt (a :: l) 0 (s :: ss) = s :: wrt l 0 ss) ∧ (∀ (a : Value) (n : Nat) (l ss : List Value), wrt (a :: l) (n + 1) ss = a :: wrt l n ss) ∧
    (∀ rs ps : List Res, back rs [] ps = rs ++ ps) ∧ (∀ (i : Nat) (p : Res) (rs ps : List Res) (is : List Nat), back rs (i :: is) (p :: ps) = back (rs.set i p) is ps) ∧ (∀ rs : List Res, clr rs [] = rs) ∧ (∀ (rs : List Res) (j : Nat) (js : List Nat), clr rs (j :: js) = clr (rs.set j .emp) js) :=
  ⟨fun l => by cases l <;> rfl, fun _ _ _ _ => rfl, fun _ n _ ss => by cases ss <;> rfl, fun _ _ => by rw [back], fun _ _ _ _ _ => by rw [back], fun _ => rfl, fun _ _ _ => rfl⟩
theorem ptn : (∀ (l : List Value) (i : Nat) (a : Value), l.toArray.setIfInBounds i a = (l.set i a).toArray) ∧ (∀ (a b : Value) (l : List Value), (a :: l).set 0 b = b :: l) ∧ (∀ (a b : Value) (n : Nat) (l : List Value), (a :: l).set (n + 1) b = a :: l.set n b) ∧ (∀ n : Int, IntKind.i64.wrap n = wrap64 n) ∧ (∀ n : Int, IntKind.i32.wrap n = wrap32 n) :=
  ⟨fun _ _ _ => List.setIfInBounds_toArray .., fun _ _ _ => rfl, fun _ _ _ _ => rfl, i64_w, i32_w⟩
theorem mpn : (∀ {α β : Type} (f : α → β) (l : List α), l.toArray.map f = (l.map f).toArray) ∧ (∀ {α β : Type} (f : α → β) (a : α) (l : List α), (a :: l).map f = f a :: l.map f) ∧ (∀ {α β : Type} (f : α → β), ([] : List α).map f = []) :=
  ⟨fun _ _ => List.map_toArray .., fun _ _ _ => rfl, fun _ => rfl⟩
theorem bxn : (∀ w : World, boxFacts w [] = True) ∧ (∀ (w : World) (g : Nat) (cs : List Value) (t : TypeId) (rs : List Res), boxFacts w (.box g cs t :: rs) = (((∀ i, w.cell? ⟨g, i, none⟩ = cs[i]?) ∧ (∀ i, w.frozen? ⟨g, i, none⟩ = false)) ∧ boxFacts w rs)) ∧ (∀ (w : World) (rs : List Res), boxFacts w (.emp :: rs) = boxFacts w rs) ∧
    (∀ (w : World) {α : Type} (d : Zd α) (x : α) (cs : List Value) (rs : List Res), boxFacts w (.own d x cs :: rs) = boxFacts w rs) ∧ (∀ p : Prop, (p ∧ True) = p) :=
  ⟨fun _ => rfl, fun _ _ _ _ _ => rfl, fun _ _ => rfl, fun _ _ _ _ _ _ => rfl, fun p => and_true p⟩
theorem dcn : (∀ h : Decidable True, @decide True h = true) ∧ (∀ h : Decidable False, @decide False h = false) ∧ (!true) = false ∧ (!false) = true := ⟨fun _ => decide_eq_true trivial, fun _ => decide_eq_false id, rfl, rfl⟩
section
variable {is : List Nat} (HD : ∀ (i : Nat) (r : Res), i ∉ is → rs[i]? = some r → ∃ S : FP, (∀ k, S k → ¬ A' k) ∧ r.holds w S)
include HD
end
end
section
variable {P : Program} {ops : Array Oper} {rest : List Oper} {o : Oper} {a : Act} {Q : Exit → Act → World → Prop} {A : FP} {w0 W : World} {rs : List Res} {K : Act → World → Prop}
end
end Go.Proofs.YtacocpknielofaaGreatDoor.Z
