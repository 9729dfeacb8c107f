/- Texts: joined, cut, made of bytes, turned into bytes. Plain lemmas, no condition. -/
import Derived.Test.YtfcpjeeeddjakaaGreatZLens
namespace Go.Proofs.YtfcpjeeeddjakaaGreat.Z
open Go.RowKit YtfcpjeeeddjakaaGreatW.PrintWords YtfcpjeeeddjakaaGreatW.PrintLast
section
variable {P : Program} {ops : Array Oper} {rest : List Oper} {o : Oper} {a : Act} {Q : Exit → Act → World → Prop} {A : FP} {w0 W : World} {rs : List Res}
theorem ev_val (hgd : o.guard = none) {v : Value} (hrun : (execOp a.eval o).run P W = .ok (.value v) W) (h : wpList P ops Q rest (a.put o.dst v) W) : wpList P ops Q (o :: rest) a W := wpList_plain hgd fun _ hK => wp_run hrun (hK _ _ h)
theorem run_cat {t t2 : TypeId} {x y : Operand} {s u : ByteArray} (ho : o.op = .binOp .add t x y t2) (hx : a.eval x = .string s) (hy : a.eval y = .string u) (hb : s.size + u.size ≤ 9223372036854775807) : (execOp a.eval o).run P W = .ok (.value (.string (s ++ u))) W := by
  have hr : (binOp .add t (.string s) (.string u)).run P W = .ok (.string (s ++ u)) W := run_string_add_sum W s u hb
  have hg : (eqGuard .add t x y (.string s) (.string u)).run P W = .ok () W := by simp [eqGuard]
  unfold execOp
  simp only [ho, hx, hy, Sem.run_bind, Sem.run_pure, Result.andThen_ok, hg, hr]
theorem run_str {src dst e : TypeId} {x : Operand} {B : Option Addr} {n c : Nat} {xs : List Int} (ho : o.op = .convert src dst x) (hx : a.eval x = .slice B n c) (hs : P.underlying src = some (.slice e)) (he : P.underlying e = some (.int .u8)) (hd : P.underlying dst = some .string) (hC : (Kd.int .u8).C W B n xs) :
    (execOp a.eval o).run P W = .ok (.value (.string (strOfNums xs))) W := by
  have hr := Kd.C_string (c := c) hs he hd hC
  unfold execOp
  simp only [ho, hx, Sem.run_bind, Sem.run_pure, Result.andThen_ok, hr]
theorem bound_run (k : IntKind) (i : Int) (y : Nat) (code : BoundsCode) (h0 : 0 ≤ i) (h1 : i ≤ y) : (Instr.sliceBound (.int k i) y code).run P W = .ok i.toNat W := by
  unfold Instr.sliceBound
  simp [asIntOf, h0, h1]
theorem run_cut {t : TypeId} {x : Operand} {lo hi : Option Operand} {s : ByteArray} {l m : Nat} (ho : o.op = .slice t x lo hi none) (hx : a.eval x = .string s) (ht : P.underlying t = some .string)
    (hl : (lo.map a.eval = none ∧ l = 0) ∨ ∃ k i, lo.map a.eval = some (.int k i) ∧ i.toNat = l ∧ 0 ≤ i) (hh : (hi.map a.eval = none ∧ m = s.size) ∨ ∃ k j, hi.map a.eval = some (.int k j) ∧ j.toNat = m ∧ 0 ≤ j) (h1 : l ≤ m) (h2 : m ≤ s.size) :
    (execOp a.eval o).run P W = .ok (.value (.string (s.extract l m))) W := by
  have hr : (Instr.slice t (.string s) (lo.map a.eval) (hi.map a.eval) none).run P W = .ok (.string (s.extract l m)) W := by
    unfold Instr.slice
    simp only [Sem.run_bind, run_underlying ht, Result.andThen_ok]
    unfold Instr.sliceBounds
    rcases hl with ⟨hl, rfl⟩ | ⟨k, i, hl, rfl, hi0⟩ <;> rcases hh with ⟨hh, rfl⟩ | ⟨k', j, hh, rfl, hj0⟩ <;> rw [hl, hh]
    · simp
    · have e1 := bound_run (P := P) (W := W) k' j s.size .sliceAlen hj0 (by omega)
      simp [e1]
    · have e1 := bound_run (P := P) (W := W) k i s.size .sliceB hi0 (by omega)
      simp [e1]
    · have e1 := bound_run (P := P) (W := W) k' j s.size .sliceAlen hj0 (by omega)
      have e2 := bound_run (P := P) (W := W) k i j.toNat .sliceB hi0 (by omega)
      simp [e1, e2]
  have hs : (Instr.sliceAt t (.string s) (lo.map a.eval) (hi.map a.eval) none).run P W = .ok (.string (s.extract l m)) W := by
    unfold Instr.sliceAt
    simp only [Sem.run_bind, run_underlying ht, Result.andThen_ok]
    exact hr
  unfold execOp
  simp only [ho, hx, Sem.run_bind, Sem.run_pure, Result.andThen_ok, Option.map_none, hs]
def Zd.view {α : Type} (e : Nat) (d : Zd α) : Zd (List α) where
  kd := Kd.slice e d.kd
  M := fun w S xs cs => ∃ g c, cs = [.slice (some ⟨g, 0, none⟩) xs.length c] ∧ xs.length ≤ c ∧ S g ∧ g < w.heap.size ∧ ∀ w1 : World, w1.heap[g]? = w.heap[g]? → d.kd.C w1 (some ⟨g, 0, none⟩) xs.length xs
  of_M := by
    rintro w S xs cs ⟨g, c, rfl, hl, _, _, h⟩
    exact ⟨_, c, rfl, hl, h w rfl⟩
  mono := by
    rintro w S S' xs cs hS ⟨g, c, rfl, hl, hg, hlt, h⟩
    exact ⟨g, c, rfl, hl, hS g hg, hlt, h⟩
  keep := by
    rintro w w1 S xs cs hm ⟨g, c, rfl, hl, hg, hlt, h⟩
    have e1 := hm g hg hlt
    refine ⟨g, c, rfl, hl, hg, ?_, fun w2 h2 => h w2 (h2.trans e1)⟩
    rw [Array.getElem?_eq_getElem hlt] at e1
    exact (Array.getElem?_eq_some_iff.1 e1).1
theorem Hp.vform {α : Type} {d : Zd α} {e : Nat} {xs : List α} {v : Value} {w : World} (i : Nat) (h : Hp A w0 w rs) (hi : rs[i]? = some (.own (Zd.view e d) xs [v])) : ∃ B c, v = .slice B xs.length c ∧ xs.length ≤ c := by
  obtain ⟨B, c, he, hl, _⟩ := h.reads i hi
  injection he with he
  exact ⟨B, c, he, hl⟩
theorem Hp.vformb {d : Zd Int} {e : Nat} {s : ByteArray} {v : Value} {w : World} (i : Nat) (h : Hp A w0 w rs) (hi : rs[i]? = some (.own (Zd.view e d) (bytesOf s) [v])) : ∃ B c, v = .slice B s.size c ∧ s.size ≤ c := by
  obtain ⟨B, c, he, hl⟩ := h.vform i hi
  rw [bytesOf_length] at he hl
  exact ⟨B, c, he, hl⟩
theorem Hp.vrd {α : Type} {d : Zd α} {e n c : Nat} {B : Option Addr} {xs : List α} {w : World} (i : Nat) (h : Hp A w0 w rs) (hi : rs[i]? = some (.own (Zd.view e d) xs [.slice B n c])) : d.kd.C w B n xs := by
  obtain ⟨B', c', he, _, hc⟩ := h.reads i hi
  injection he with he
  injection he with h1 h2 h3
  subst h1; subst h2
  exact hc
theorem vbytes_C {W w1 : World} {e : TypeId} {s : ByteArray} (hs : s.size ≤ 9223372036854775807) (h : w1.heap[W.heap.size]? = (Lib.bytesWorld W e s).heap[W.heap.size]?) : (Kd.int .u8).C w1 (some ⟨W.heap.size, 0, none⟩) s.size (bytesOf s) := by
  refine ⟨bytesOf_length s, hs, fun _ => ⟨_, rfl, fun j p hj => ⟨[.int .u8 p], rfl, rfl, fun i u hu => ?_⟩⟩⟩
  obtain ⟨rfl, rfl⟩ : i = 0 ∧ u = .int .u8 p := by
    cases i with
    | zero => exact ⟨rfl, by simpa using hu.symm⟩
    | succ i => simp at hu
  have hjl : j < s.size := by rw [← bytesOf_length s]; exact (List.getElem?_eq_some_iff.1 hj).1
  have h1 : (Lib.bytesWorld W e s).cell? ⟨W.heap.size, 0 + j, none⟩ = some (.int .u8 p) := by
    obtain ⟨_, _, h2⟩ := bytes_reads W e s hs
    obtain ⟨ad, he, hc⟩ := h2 (by omega)
    injection he with he
    subst he
    have h3 := hc j hjl
    rw [add_plain] at h3
    rw [Nat.zero_add]
    rw [h3]
    simp [List.getD_eq_getElem?_getD, hj]
  have h4 : w1.cell? ⟨W.heap.size, 0 + j, none⟩ = (Lib.bytesWorld W e s).cell? ⟨W.heap.size, 0 + j, none⟩ := by
    unfold World.cell?
    simp only [h]
  show w1.cell? ((⟨W.heap.size, 0, none⟩ : Addr).add (j * 1 + 0)) = _
  rw [add_plain, Nat.mul_one, Nat.add_zero, ← Nat.zero_add j, h4, h1]
theorem wp_bytes {K : Act → World → Prop} (HS : Hp A w0 W rs) {src dst e : TypeId} {x : Operand} {s : ByteArray} (ho : o.op = .convert src dst x) (hx : a.eval x = .string s) (hs : P.underlying src = some .string) (hd : P.underlying dst = some (.slice e)) (he : P.underlying e = some (.int .u8)) (hb : s.size ≤ 9223372036854775807)
    (h : ∀ v1 w1, Hp A w0 w1 (rs ++ [.own (Zd.view e (Zd.int .u8)) (bytesOf s) [v1]]) → K (a.put o.dst v1) w1) : Oper.wp P o a W K Q := by
  have hr := print_bytes (P := P) src dst e hs hd he s W
  have hrun : (execOp a.eval o).run P W = .ok (.value (.slice (some ⟨W.heap.size, 0, none⟩) s.size (grownCap W s.size 0 e))) (Lib.bytesWorld W e s) := by
    unfold execOp
    simp only [ho, hx, Sem.run_bind, Sem.run_pure, Result.andThen_ok, hr]
  have hcap : s.size ≤ grownCap W s.size 0 e := by
    exact grownCap_ge W s.size 0 e
  refine wp_run hrun (h _ _ (HS.push (bytes_below (Below.refl _ _) (Nat.le_refl _) e s) ⟨W.heap.size, _, by rw [bytesOf_length], by rw [bytesOf_length]; exact hcap, ⟨Nat.le_refl _, by rw [Lib.bytesWorld_size]; omega⟩, by rw [Lib.bytesWorld_size]; omega, fun w1 h1 => ?_⟩))
  have := vbytes_C (e := e) hb h1
  rw [bytesOf_length]
  exact this
theorem ev_bytes (hgd : o.guard = none) (HS : Hp A w0 W rs) {src dst e : TypeId} {x : Operand} {s : ByteArray} (ho : o.op = .convert src dst x) (hx : a.eval x = .string s) (hs : P.underlying src = some .string) (hd : P.underlying dst = some (.slice e)) (he : P.underlying e = some (.int .u8)) (hb : s.size ≤ 9223372036854775807)
    (h : ∀ v1 w1, Hp A w0 w1 (rs ++ [.own (Zd.view e (Zd.int .u8)) (bytesOf s) [v1]]) → wpList P ops Q rest (a.put o.dst v1) w1) : wpList P ops Q (o :: rest) a W := wpList_plain hgd fun _ hK => wp_bytes HS ho hx hs hd he hb (fun v1 w1 h2 => hK _ _ (h v1 w1 h2))
theorem run_append_str_any {e n : Nat} {t u ty : TypeId} {i : TypeInfo} (ht : P.underlying t = some (.slice e)) (hu : P.underlying u = some .string) (hi : P.info? e = some i) (hz : i.zero = some (.int .u8 0)) (hsize : i.size = 1) (hby : i.bytes = 1)
    {v : Value} {inner : List Value} (hin : W.ownsRow 0 e 1 v n inner) (s : ByteArray) (h63 : n + s.size ≤ maxLen) (hb : n + s.size ≤ 140737488355328) :
    ∃ v1 w1, (Builtin.append_ #[t, u] ty #[v, .string s]).run P W = .ok v1 w1 ∧ w1.ownsRow 0 e 1 v1 (n + s.size) (inner ++ Lib.strCells s) ∧ W.grownBy w1 v.ownBlock ∧ (v1.ownBlock = v.ownBlock ∨ v1.ownBlock = some W.heap.size) := by
  obtain ⟨v1, w1, hr, h2, h3, h4⟩ := Lib.run_append_own_string (P := P) W 0 t u ty e i ht hu hi hz hsize hby v n inner hin s h63 hb (Nat.zero_le _)
  refine ⟨v1, w1, hr, h2, h3, ?_⟩
  have hxl : inner.length = n := by simpa using hin.1
  have hcell := fun g h => hin.cells (g := g) h
  rcases hin.2 with ⟨rfl, rfl⟩ | ⟨g, cap, cur, rfl, _, hg, hnc, hcm, hcs, htake⟩
  · by_cases hm : s.size = 0
    · rw [h4.2 ⟨rfl, hm⟩]
      exact .inl rfl
    · have hr2 := run_append_nil_string (P := P) W t u ty e i (.int .u8 0) ht hu hi hz s (by omega) (by omega) (by rw [hby]; omega)
      rw [hr] at hr2
      injection hr2 with hv _
      subst hv
      exact .inr rfl
  · by_cases hroom : n + s.size ≤ cap
    · have hcs' : cur.size = cap := by simpa using hcs
      have hr2 := Lib.run_append_room_string (P := P) W t u ty e i ht hu hi hsize g n cap cur hg s hroom (by omega)
      rw [hr] at hr2
      injection hr2 with hv _
      subst hv
      exact .inl rfl
    · have hr2 := Lib.run_append_grow_string (P := P) W t u ty e i (.int .u8 0) ht hu hi hz ⟨g, 0, none⟩ n cap inner (by rw [hsize]; simpa using hxl) (hcell g rfl) s (by omega) (by omega) (by rw [hby]; exact growslice_fits (by omega) (by omega))
      rw [hr] at hr2
      injection hr2 with hv _
      subst hv
      exact .inr rfl
theorem wp_appends {K : Act → World → Prop} (r : Nat) (HS : Hp A w0 W rs) {e : Nat} {v : Value} {xs : List Int} (hr : rs[r]? = some (.own (Zd.slice e (Zd.int .u8)) xs [v]))
    {t u : TypeId} {x y : Operand} {s : ByteArray} (ho : o.op = .call { callee := .builtin .append, args := #[x, y], argTypes := #[t, u] }) (hx : a.eval x = v) (hy : a.eval y = .string s) (ht : P.underlying t = some (.slice e)) (hu : P.underlying u = some .string)
    (hinfo : (P.info? e).map (fun i => (i.zero, i.size, i.bytes)) = some (some (.int .u8 0), 1, 1)) (hb : xs.length + s.size ≤ 140737488355328)
    (h : ∀ v1 w1, Hp A w0 w1 (clr rs [r] ++ [.own (Zd.slice e (Zd.int .u8)) (xs ++ bytesOf s) [v1]]) → K (a.put o.dst v1) w1) : Oper.wp P o a W K Q := by
  obtain ⟨i0, hi, hzz⟩ := Option.map_eq_some_iff.1 hinfo
  simp only [Prod.mk.injEq] at hzz
  obtain ⟨hz0, hz1, hz2⟩ := hzz
  obtain ⟨S0, _, ⟨v', hv', inner, hin, _⟩⟩ := HS.has hr
  injection hv' with hv'
  subst hv'
  obtain ⟨v1, w1, hrun, hown, hg, hat⟩ := run_append_str_any (P := P) (ty := o.type) ht hu hi hz0 hz1 hz2 hin s (by simp only [maxLen]; omega) hb
  have hrun' : (execOp a.eval o).run P W = .ok (.value v1) w1 := by
    unfold execOp
    simp only [ho, resolve, invoke, builtin, Sem.run_bind, Sem.run_pure, Result.andThen_ok, List.map_toArray, List.map_cons, List.map_nil, hx, hy, hrun]
  refine wp_run hrun' (h _ _ (HS.trade [r] ⟨hg.os, hg.tape, hg.output, hg.size⟩ (fun S g1 g2 g3 => ?_)))
  obtain ⟨u, hu, hrow⟩ := g3 r _ hr
  injection hu with hu
  subst hu
  have hnl : ∀ (j : Nat) (x : Int), (bytesOf s)[j]? = some x → (((bytesOf s).map (Value.int .u8)).drop (j * 1)).take 1 = [Value.int .u8 x] := by
    intro j x hj
    rw [Nat.mul_one, List.drop_eq_getElem_cons (by rw [List.length_map]; exact (List.getElem?_eq_some_iff.1 hj).1)]
    simp [(List.getElem?_eq_some_iff.1 hj).2]
  have hres := Row.append (d := Zd.int .u8) (w1 := w1) (v1 := v1) (ys := bytesOf s) (news := (bytesOf s).map (Value.int .u8)) hrow (g2 r) (fun _ _ => False) (fun _ _ h => h.elim) (fun _ _ h => h.elim) (fun _ _ _ _ h => h.elim) (fun j x hx => hnl j x hx) (fun i2 h2 => by
    obtain rfl := own_one hin h2
    rw [List.length_append, bytesOf_length]
    have e1 : (bytesOf s).map (Value.int .u8) = Lib.strCells s := by simp [bytesOf, Lib.strCells]
    rw [e1]
    exact hown) hg hat
  refine ⟨_, ⟨_, rfl, hres⟩, fun k hk => ⟨?_, hk.2⟩, fun k hk hn => hg.block k hk (fun he => ?_)⟩
  · rcases hk.1 with hk | ⟨j, hk⟩ | hk
    · exact .inl ⟨r, by simp, hk⟩
    · exact hk.elim
    · exact .inr hk
  · obtain ⟨_, _, hb', _⟩ := hrow
    exact hn ⟨r, by simp, hb' k he.symm⟩
theorem ev_appends (hgd : o.guard = none) (r : Nat) (HS : Hp A w0 W rs) {e : Nat} {v : Value} {xs : List Int} (hr : rs[r]? = some (.own (Zd.slice e (Zd.int .u8)) xs [v]))
    {t u : TypeId} {x y : Operand} {s : ByteArray} (ho : o.op = .call { callee := .builtin .append, args := #[x, y], argTypes := #[t, u] }) (hx : a.eval x = v) (hy : a.eval y = .string s) (ht : P.underlying t = some (.slice e)) (hu : P.underlying u = some .string)
    (hinfo : (P.info? e).map (fun i => (i.zero, i.size, i.bytes)) = some (some (.int .u8 0), 1, 1)) (hb : xs.length + s.size ≤ 140737488355328)
    (h : ∀ v1 w1, Hp A w0 w1 (clr rs [r] ++ [.own (Zd.slice e (Zd.int .u8)) (xs ++ bytesOf s) [v1]]) → wpList P ops Q rest (a.put o.dst v1) w1) : wpList P ops Q (o :: rest) a W := wpList_plain hgd fun _ hK => wp_appends r HS hr ho hx hy ht hu hinfo hb (fun v1 w1 h2 => hK _ _ (h v1 w1 h2))
end
end Go.Proofs.YtfcpjeeeddjakaaGreat.Z
