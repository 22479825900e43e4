/- Small laws on rows of cells: a struct or an array that is read, written or handed back whole. Over any program. -/
import Derived.WalkKit
import Derived.Lib.Hide
import Derived.WalkSmall
import Derived.Laws.CopyOwn
import Derived.KernelRfl
namespace Go.Proofs.Ytfhlmijdokfdpaa
open Go.RowKit

/-- Block g of w holds these cells. -/
@[reducible] def IsR (w : World) (g : Nat) (cs : Array Value) (t : TypeId) : Prop := w.heap[g]? = some (.cells cs t (0, 0))

theorem heap_top (w : World) (o : Obj) (k : Nat) (h : k = w.heap.size) : (w.alloc o).heap[k]? = some o := by
  subst h
  show (w.heap.push o)[w.heap.size]? = _
  simp
theorem alloc_size (w : World) (o : Obj) : (w.alloc o).heap.size = w.heap.size + 1 := by
  show (w.heap.push o).size = _
  simp

/-- What a store into block g leaves. -/
structure Put (g : Nat) (cs : Array Value) (t : TypeId) (w w1 : World) : Prop where
  row : IsR w1 g cs t
  rest : ∀ k, k ≠ g → w1.heap[k]? = w.heap[k]?
  below : ∀ B w0, B ≤ g → Below B w0 w → Below B w0 w1
  size : w1.heap.size = w.heap.size

theorem put_setRow {w : World} {g : Nat} {old cs : Array Value} {t : TypeId} (hg : IsR w g old t) : Put g cs t w (w.setRow g cs) :=
  ⟨setRow_heap w g _ _ _ _ hg, fun k hk => setRow_other w g k _ hk, fun _ _ hB hb => below_setRow hb hB _, by simp⟩
theorem put_setCell {w : World} {g i : Nat} {old : Array Value} {t : TypeId} (v : Value) (hg : IsR w g old t) : Put g (old.setIfInBounds i v) t w (w.setCell ⟨g, i, none⟩ v) :=
  ⟨heap_setCell_same w g i _ _ v hg, fun j hj => heap_setCell_other w _ j _ hj, fun _ _ hB hb => hb.setCell hB _, by simp [World.setCell]⟩

theorem IsR.kept {w w1 : World} {g : Nat} {cs : Array Value} {t : TypeId} (h : IsR w g cs t) (hb : Below w.heap.size w w1) : IsR w1 g cs t :=
  (hb.block g (Array.getElem?_eq_some_iff.1 h).1).trans h
theorem IsR.lt {w : World} {g : Nat} {cs : Array Value} {t : TypeId} (h : IsR w g cs t) : g < w.heap.size := (Array.getElem?_eq_some_iff.1 h).1
theorem IsR.put {w w1 : World} {g g' : Nat} {cs cs' : Array Value} {t t' : TypeId} (h : IsR w g cs t) (hp : Put g' cs' t' w w1) (hne : g ≠ g') : IsR w1 g cs t := (hp.rest g hne).trans h
theorem IsR.cell {w : World} {g : Nat} {cs : Array Value} {t : TypeId} (h : IsR w g cs t) (j : Nat) : w.cell? ⟨g, j, none⟩ = cs[j]? := cell_of_row w g j cs t _ h
theorem IsR.froz {w : World} {g : Nat} {cs : Array Value} {t : TypeId} (h : IsR w g cs t) (j : Nat) : w.frozen? ⟨g, j, none⟩ = false := frozen_of_row w g j cs t h
theorem IsR.alloc {w : World} {g : Nat} {cs : Array Value} {t : TypeId} (h : IsR w g cs t) (o : Obj) : IsR (w.alloc o) g cs t := (Below.heap_alloc w o g h.lt).trans h

section
variable {P : Program} {ops : Array Oper} {rest : List Oper} {o : Oper} {a : Act} {w : World} {Q : Exit → Act → World → Prop}
/-- A row is written whole. -/
theorem wpR_store (hgd : o.guard = none) (T : TypeId) (x y : Operand) (ho : o.op = .store T x y) (g : Nat) (hx : a.eval x = .pointer (some ⟨g, 0, none⟩)) (cs old : Array Value) (hy : a.eval y = .agg cs) (t : TypeId)
    (hg : IsR w g old t) (hi : (P.info? T).map (·.size) = some cs.size) (hold : old.size = cs.size) (h1 : cs.all (·.oneCell') = true)
    (h : ∀ w1 : World, Put g cs t w w1 → wpList P ops Q rest (a.put o.dst undef) w1) : wpList P ops Q (o :: rest) a w :=
  wpList_store_row hgd _ x y ho g _ hx hy _ _ hg hi hold h1 (h _ (put_setRow hg))
/-- One cell of a row is written. -/
theorem wpR_cell (hgd : o.guard = none) (T : TypeId) (x y : Operand) (ho : o.op = .store T x y) (g k : Nat) (hx : a.eval x = .pointer (some ⟨g, k, none⟩)) (v : Value) (hy : a.eval y = v) (cs : Array Value) (t : TypeId)
    (hg : IsR w g cs t) (hk : k < cs.size) (hi : (P.info? T).map (·.size) = some 1) (h1 : v.oneCell' = true)
    (h : ∀ w1 : World, Put g (cs.setIfInBounds k v) t w w1 → wpList P ops Q rest (a.put o.dst undef) w1) : wpList P ops Q (o :: rest) a w := by
  refine wpList_plain hgd fun K hK => ?_
  have hc : w.cell? ⟨g, k, none⟩ = some cs[k] := by rw [hg.cell k]; simp [hk]
  have hf := hg.froz k
  have hh := hK _ _ (h _ (put_setCell v hg))
  obtain ⟨i, hi'⟩ : ∃ i, P.info? T = some i := by
    cases hq : P.info? T with
    | none => simp [hq] at hi
    | some i => exact ⟨i, rfl⟩
  have hs : i.size = 1 := by simpa [hi'] using hi
  unfold Oper.wp execOp
  simp only [ho, hx, hy, Instr.storeAt, Instr.sureAddr, Sem.run_bind, Sem.run_pure, Result.andThen_ok]
  cases v <;> simp [Value.oneCell'] at h1
  all_goals
    simp [storeVar, sizeOf, typeInfo, hi', hs, Value.cells, storeCells, store, Sem.run, hc, hf, Addr.add]
    exact hh
end

section
variable {P : Program} {w : World}
theorem run_row {T : TypeId} {g : Nat} {cs : Array Value} {t : TypeId} {d : TypeDesc} (hg : IsR w g cs t) (hu : P.underlying T = some d) (hd : (match d with | .struct _ | .array _ _ => true | _ => false) = true)
    (hi : (P.info? T).map (·.size) = some cs.size) : (loadVar T ⟨g, 0, none⟩).run P w = .ok (.agg cs) w := run_loadVar_row w g t T cs _ d hg hu hd hi
variable {fn : Func} {R : Ending → World → Prop} {tmps : Array Value} {p q r : Tmp} {T : TypeId} {d : TypeDesc} {g : Nat} {cs : Array Value} {t : TypeId}
/-- One result: a row. -/
theorem ret_row (h : fn.results = #[.cell p T]) (hp : tmps.getD p undef = .pointer (some ⟨g, 0, none⟩)) (hg : IsR w g cs t) (hu : P.underlying T = some d) (hd : (match d with | .struct _ | .array _ _ => true | _ => false) = true)
    (hi : (P.info? T).map (·.size) = some cs.size) (hR : R (.returned (.agg cs)) w) : bodyPost P fn R .ret { tmps, defers := [] } w :=
  bodyPost_ret (results_cell_row h tmps w g _ _ _ _ hp hg hu hd hi) rfl hR
/-- Two: a row, and a plain value. -/
theorem ret_row_tmp (h : fn.results = #[.cell p T, .tmp q]) (hp : tmps.getD p undef = .pointer (some ⟨g, 0, none⟩)) (v : Value) (hq : tmps.getD q undef = v) (hg : IsR w g cs t) (hu : P.underlying T = some d)
    (hd : (match d with | .struct _ | .array _ _ => true | _ => false) = true) (hi : (P.info? T).map (·.size) = some cs.size) (hR : R (.returned (.tuple #[.agg cs, v])) w) :
    bodyPost P fn R .ret { tmps, defers := [] } w := by
  have hp' : tmps[p]?.getD undef = .pointer (some ⟨g, 0, none⟩) := by simpa using hp
  have hq' : tmps[q]?.getD undef = v := by simpa using hq
  refine bodyPost_ret (v := .tuple #[.agg cs, v]) ?_ rfl hR
  simp [results, h, hp', hq', asAddr, run_row hg hu hd hi]
/-- Three: a row, and two plain values. -/
theorem ret_row_tmp2 (h : fn.results = #[.cell p T, .tmp q, .tmp r]) (hp : tmps.getD p undef = .pointer (some ⟨g, 0, none⟩)) (v v' : Value) (hq : tmps.getD q undef = v) (hr : tmps.getD r undef = v') (hg : IsR w g cs t)
    (hu : P.underlying T = some d) (hd : (match d with | .struct _ | .array _ _ => true | _ => false) = true) (hi : (P.info? T).map (·.size) = some cs.size) (hR : R (.returned (.tuple #[.agg cs, v, v'])) w) :
    bodyPost P fn R .ret { tmps, defers := [] } w := by
  have hp' : tmps[p]?.getD undef = .pointer (some ⟨g, 0, none⟩) := by simpa using hp
  have hq' : tmps[q]?.getD undef = v := by simpa using hq
  have hr' : tmps[r]?.getD undef = v' := by simpa using hr
  refine bodyPost_ret (v := .tuple #[.agg cs, v, v']) ?_ rfl hR
  simp [results, h, hp', hq', hr', asAddr, run_row hg hu hd hi]
end
end Go.Proofs.Ytfhlmijdokfdpaa
