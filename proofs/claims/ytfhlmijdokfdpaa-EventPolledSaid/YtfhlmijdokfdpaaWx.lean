/- Steps of a walk in one order, over rows that stand. -/
import Derived.Test.YtfhlmijdokfdpaaWv
import Derived.Deep.MidRow
namespace Go.Proofs.Ytfhlmijdokfdpaa
open Go Go.RowKit

section
variable {P : Program} {ops : Array Oper} {w0 w : World} {L : List Rw} {Q : Exit → Act → World → Prop} {o : Oper} {rest : List Oper} {a : Act}

theorem sq_region {id : Nat} {l : List Oper} (h : Stay (wpList P l.toArray Q l a w)) : (Code.region id l.toArray false).wp P Q a w := wp_region_lit h.out
theorem sq_nil (h : Q .normal a w) : Stay (wpList P ops Q [] a w) := ⟨h⟩
/-- An operation that leaves the world alone. -/
theorem sq_ex (hg : Region.wanted o (yielded ops a.tmps) = true)
    (h : ∀ K : Act → World → Prop, (∀ a w, Stay (wpList P ops Q rest a w) → K a w) → ∃ v, (execOp a.eval o).run P w = .ok (.value v) w ∧ K (a.put o.dst v) w) : Stay (wpList P ops Q (o :: rest) a w) :=
  ⟨wpList_step fun K hK' => by
    have hK : ∀ a w, Stay (wpList P ops Q rest a w) → K a w := fun a w h => hK' a w h.out
    obtain ⟨v, hv, h2⟩ := h K hK
    rw [if_pos hg]
    unfold Oper.wp
    rw [hv]
    exact h2⟩
theorem sq_not (hg : Region.wanted o (yielded ops a.tmps) = false)
    (h : ∀ K : Act → World → Prop, (∀ a w, Stay (wpList P ops Q rest a w) → K a w) → K (a.put o.dst undef) w) : Stay (wpList P ops Q (o :: rest) a w) :=
  ⟨wpList_step fun K hK' => by
    have hK : ∀ a w, Stay (wpList P ops Q rest a w) → K a w := fun a w h => hK' a w h.out
    rw [if_neg (by simp [hg])]
    exact h K hK⟩
/-- A call, by its contract. -/
theorem sq_call (hg : Region.wanted o (yielded ops a.tmps) = true) {f : FuncId} {args : Array Value} (hv : ∀ w, (execOp a.eval o).run P w = .ok (.enter f args) w) {R : Ending → World → Prop} (hc : Calls P f args w R)
    (h : ∀ K : Act → World → Prop, (∀ a w, Stay (wpList P ops Q rest a w) → K a w) → ∀ e w', R e w' → ∃ v, e = .returned v ∧ K (a.put o.dst v) w') : Stay (wpList P ops Q (o :: rest) a w) :=
  ⟨wpList_step fun K hK' => by
    have hK : ∀ a w, Stay (wpList P ops Q rest a w) → K a w := fun a w h => hK' a w h.out
    rw [if_pos hg]
    unfold Oper.wp
    rw [hv w]
    refine hc.mono fun e w' hR => ?_
    obtain ⟨v, he, h2⟩ := h K hK e w' hR
    subst he
    exact h2⟩
/-- A new box. -/
theorem sq_alloc (hg : Region.wanted o (yielded ops a.tmps) = true) (M : Has w0 L w) {T : TypeId} {z : Array Value} (hv : ∀ w, (execOp a.eval o).run P w = .ok (.value (.pointer (some ⟨w.heap.size, 0, none⟩))) (w.alloc (Obj.cells z T)))
    (h : ∀ K : Act → World → Prop, (∀ a w, Stay (wpList P ops Q rest a w) → K a w) → ∀ g w', Has w0 (L ++ [(g, z, T)]) w' → K (a.put o.dst (.pointer (some ⟨g, 0, none⟩))) w') : Stay (wpList P ops Q (o :: rest) a w) :=
  ⟨wpList_step fun K hK' => by
    have hK : ∀ a w, Stay (wpList P ops Q rest a w) → K a w := fun a w h => hK' a w h.out
    rw [if_pos hg]
    unfold Oper.wp
    rw [hv w]
    exact h K hK _ _ (M.new z T)⟩
/-- A new row, told by a value. -/
theorem sq_new (hg : Region.wanted o (yielded ops a.tmps) = true) (M : Has w0 L w) (V : Nat → Value) {T : TypeId} {z : Array Value} (hv : ∀ w, (execOp a.eval o).run P w = .ok (.value (V w.heap.size)) (w.alloc (Obj.cells z T)))
    (h : ∀ K : Act → World → Prop, (∀ a w, Stay (wpList P ops Q rest a w) → K a w) → ∀ g w', Has w0 (L ++ [(g, z, T)]) w' → K (a.put o.dst (V g)) w') : Stay (wpList P ops Q (o :: rest) a w) :=
  ⟨wpList_step fun K hK' => by
    have hK : ∀ a w, Stay (wpList P ops Q rest a w) → K a w := fun a w h => hK' a w h.out
    rw [if_pos hg]
    unfold Oper.wp
    rw [hv w]
    exact h K hK _ _ (M.new z T)⟩
/-- Row j is written. -/
theorem sq_store (hg : Region.wanted o (yielded ops a.tmps) = true) (M : Has w0 L w) (j : Nat) {g : Nat} {z cs : Array Value} {T : TypeId} (e : L[j]? = some (g, z, T)) (hv : ∀ w, IsR w g z T → ∃ w', (execOp a.eval o).run P w = .ok .skip w' ∧ Put g cs T w w')
    (h : ∀ K : Act → World → Prop, (∀ a w, Stay (wpList P ops Q rest a w) → K a w) → ∀ w', Has w0 (L.set j (g, cs, T)) w' → K (a.put o.dst undef) w') : Stay (wpList P ops Q (o :: rest) a w) :=
  ⟨wpList_step fun K hK' => by
    have hK : ∀ a w, Stay (wpList P ops Q rest a w) → K a w := fun a w h => hK' a w h.out
    rw [if_pos hg]
    unfold Oper.wp
    obtain ⟨w', hr, hp⟩ := hv w (M.row j e)
    rw [hr]
    exact h K hK _ (M.put j e hp)⟩
end

/-- The row that a slice's value tells. -/
def sliceRow (T : TypeId) (c : Array Value) : Value → List Rw
  | .slice (some ⟨g, 0, none⟩) _ _ => [(g, c, T)]
  | _ => []

section
variable {P : Program} {w : World} {o : Oper} {a : Act} {g : Nat} {cs z : Array Value} {t T : TypeId} {x y : Operand} {d : TypeDesc}
/-- A row is read whole. -/
theorem run_ld (ho : o.op = .load T x) (hx : a.eval x = .pointer (some ⟨g, 0, none⟩)) (hg : IsR w g cs t) (hd : (match d with | .struct _ | .array _ _ => true | _ => false) = true) (hu : P.underlying T = some d) (hi : (P.info? T).map (·.size) = some cs.size) :
    (execOp a.eval o).run P w = .ok (.value (.agg cs)) w := by
  unfold execOp
  simp only [ho, hx, Instr.loadAt, Instr.sureAddr, Sem.run_bind, Sem.run_pure, Result.andThen_ok, run_row hg hu (by cases d <;> first | rfl | cases hd) hi]
/-- Some cells of a row are read. -/
theorem run_ldm {off : Nat} (vs : List Value) (ho : o.op = .load T x) (hx : a.eval x = .pointer (some ⟨g, off, none⟩)) (hg : IsR w g cs t) (hv : ∀ j v, vs[j]? = some v → cs[off + j]? = some v) (hd : d.isRow = true) (hu : P.underlying T = some d) (hi : (P.info? T).map (·.size) = some vs.length) :
    (execOp a.eval o).run P w = .ok (.value (.agg vs.toArray)) w := by
  unfold execOp
  simp only [ho, hx, Instr.loadAt, Instr.sureAddr, Sem.run_bind, Sem.run_pure, Result.andThen_ok, run_loadVar_mid w g off T vs d (fun j v hj => (hg.cell (off + j)).trans (hv j v hj)) hu hd hi]
/-- A row is written whole. -/
theorem run_st (ho : o.op = .store T x y) (hx : a.eval x = .pointer (some ⟨g, 0, none⟩)) (hy : a.eval y = .agg cs) (hi : (P.info? T).map (·.size) = some cs.size) (hz : z.size = cs.size) (h1 : cs.all (·.oneCell') = true) :
    ∀ w, IsR w g z t → ∃ w', (execOp a.eval o).run P w = .ok .skip w' ∧ Put g cs t w w' := fun w hg => by
  refine ⟨w.setRow g cs, ?_, put_setRow hg⟩
  unfold execOp
  simp only [ho, hx, hy, Instr.storeAt, Instr.sureAddr, Sem.run_bind, Sem.run_pure, Result.andThen_ok, run_storeVar_row w g t T z cs hg hi hz h1]
/-- A cell of a row is written. -/
theorem run_st1 {k : Nat} {v : Value} (ho : o.op = .store T x y) (hx : a.eval x = .pointer (some ⟨g, k, none⟩)) (hy : a.eval y = v) (hi : (P.info? T).map (·.size) = some 1) (hk : k < z.size) (h1 : v.oneCell' = true) :
    ∀ w, IsR w g z t → ∃ w', (execOp a.eval o).run P w = .ok .skip w' ∧ Put g (z.setIfInBounds k v) t w w' := fun w hg => by
  refine ⟨w.setCell ⟨g, k, none⟩ v, ?_, put_setCell v hg⟩
  have hc : w.cell? ⟨g, k, none⟩ = some z[k] := by rw [hg.cell k]; simp [hk]
  have hf := hg.froz k
  obtain ⟨i, hi'⟩ : ∃ i, P.info? T = some i := by
    cases hq : P.info? T with
    | none => simp [hq] at hi
    | some i => exact ⟨i, rfl⟩
  have hs : i.size = 1 := by simpa [hi'] using hi
  unfold execOp
  simp only [ho, hx, hy, Instr.storeAt, Instr.sureAddr, Sem.run_bind, Sem.run_pure, Result.andThen_ok]
  cases v <;> simp [Value.oneCell'] at h1
  all_goals simp [storeVar, sizeOf, typeInfo, hi', hs, Value.cells, storeCells, store, Sem.run, hc, hf, Addr.add]
end
end Go.Proofs.Ytfhlmijdokfdpaa
