/- The walker: copy, clear, append of a made slice: cells of one's own row laid over. -/
import Derived.Test.YtfhlmijdokfdpaaEf
namespace Go.Proofs.Ytfhlmijdokfdpaa
open Go Go.RowKit

/-- The cells c with vs laid over from o on. -/
def sets : Array Value → Nat → List Value → Array Value
  | c, _, [] => c
  | c, o, v :: vs => sets (c.setIfInBounds o v) (o + 1) vs
theorem sets_size : ∀ (vs : List Value) (c : Array Value) (o : Nat), (sets c o vs).size = c.size
  | [], _, _ => rfl
  | v :: vs, c, o => by rw [sets, sets_size vs]; simp
theorem sets_get : ∀ (vs : List Value) (c : Array Value) (o j : Nat), o + vs.length ≤ c.size → (sets c o vs)[j]? = if o ≤ j ∧ j < o + vs.length then vs[j - o]? else c[j]?
  | [], c, o, j, _ => by rw [if_neg (by simp only [List.length_nil]; omega)]; rfl
  | v :: vs, c, o, j, h => by
    simp only [List.length_cons] at h ⊢
    rw [sets, sets_get vs _ _ _ (by simp; omega)]
    by_cases h1 : o = j
    · subst h1
      rw [if_neg (by omega), if_pos (by omega)]
      simp [show o < c.size by omega]
    · by_cases h2 : o + 1 ≤ j ∧ j < o + 1 + vs.length
      · rw [if_pos h2, if_pos (by omega), show j - o = (j - (o + 1)) + 1 by omega, List.getElem?_cons_succ]
      · rw [if_neg h2, if_neg (by omega), Array.getElem?_setIfInBounds_ne h1]
theorem turn_sets (g : Nat) (T : TypeId) : ∀ (vs : List Value) (o : Nat) (w : World) (c : Array Value), w.heap[g]? = some (.cells c T (0, 0)) → o + vs.length ≤ c.size → Turn g (.cells (sets c o vs) T (0, 0)) w (w.setCells g o vs)
  | [], _, w, c, h, _ => ⟨h, fun _ _ => rfl, rfl, rfl, rfl, rfl⟩
  | v :: vs, o, w, c, h, hl => by
    simp only [List.length_cons] at hl
    have t1 := turn_cell h o v
    have t2 := turn_sets g T vs (o + 1) (w.setCell ⟨g, o, none⟩ v) _ t1.row (by simp; omega)
    exact ⟨t2.row, fun k hk => (t2.rest k hk).trans (t1.rest k hk), t2.size.trans t1.size, t2.os.trans t1.os, t2.tape.trans t1.tape, t2.output.trans t1.output⟩

section
variable {P : Program} {w : World} {t tx T ty : TypeId} {k by_ : Nat}
/-- copy into one's own row. -/
theorem run_copyO (hE : elemB P t T k by_ = true) {g o dn dc m cnt : Nat} {c : Array Value} {T' : TypeId} {y : Value} {vs : List Value} (hg : w.heap[g]? = some (.cells c T' (0, 0))) (hm : ∀ w', (Builtin.lenOf y).run P w' = .ok m w') (hcnt : cnt = min m dn)
    (hf : (Builtin.firstCells k cnt y).run P w = .ok vs.toArray w) (ho : o + vs.length ≤ c.size) (h1 : ∀ u ∈ vs, u.oneCell' = true) :
    (Builtin.copy_ #[t, tx] ty #[.slice (some ⟨g, o, none⟩) dn dc, y]).run P w = .ok (.int .i64 cnt) (w.setCells g o vs) := by
  obtain ⟨ht, i, z, hi, _, _, hk, _⟩ := elemB_spec hE
  subst hk
  have hst := run_storeCells_cells (P := P) g o vs 0 w (fun j hj => by rw [Nat.add_zero, cell_own hg, Array.getElem?_eq_getElem (by omega)]; rfl) (fun j hj => froz_own hg _) h1
  simp only [Nat.add_zero] at hst
  have e : Nat.min m dn = cnt := hcnt.symm
  simp [Builtin.copy_, run_underlying ht, sizeOf, typeInfo, hi, hm, e, hf, hst, goInt]
theorem run_copy0 (hE : elemB P t T k by_ = true) {dn dc m : Nat} {y : Value} {vs : List Value} {p : Option Addr} (hm : ∀ w', (Builtin.lenOf y).run P w' = .ok m w') (hcnt : min m dn = 0)
    (hf : (Builtin.firstCells k 0 y).run P w = .ok #[] w) : (Builtin.copy_ #[t, tx] ty #[.slice p dn dc, y]).run P w = .ok (.int .i64 0) w := by
  obtain ⟨ht, i, z, hi, _, _, hk, _⟩ := elemB_spec hE
  subst hk
  have e : Nat.min m dn = 0 := hcnt
  cases p <;> simp [Builtin.copy_, run_underlying ht, sizeOf, typeInfo, hi, hm, e, hf, goInt, storeCells]
/-- The first elements of a slice that reads as l. -/
theorem first_sv {α : Type} [Enc α] {p : Option Addr} {m cap cnt : Nat} {l : List α} (h : Sv w p l) (hc : cnt ≤ l.length) : (Builtin.firstCells (Enc.k α) cnt (.slice p m cap)).run P w = .ok ((l.take cnt).flatMap Enc.enc).toArray w := by
  by_cases h0 : cnt = 0
  · subst h0
    cases p with
    | none => simp [Builtin.firstCells]
    | some a => simp [Builtin.firstCells, loadCells, loadCellsFrom]
  · obtain ⟨b, o, rfl⟩ := h.addr fun e => by subst e; simp at hc; omega
    have hlen : (l.take cnt).length = cnt := by rw [List.length_take]; omega
    refine run_firstCells_some w _ cnt ⟨b, o, none⟩ m cap _ (by rw [flat_len, hlen]) fun j v hj => ?_
    have hlt : j < cnt * Enc.k α := by
      have := (List.getElem?_eq_some_iff.1 hj).1
      rwa [flat_len, hlen] at this
    have hk : 0 < Enc.k α := Enc.pos
    have hi : j / Enc.k α < (l.take cnt).length := by rw [hlen]; exact Nat.div_lt_of_lt_mul (by rwa [Nat.mul_comm])
    have ej : j / Enc.k α * Enc.k α + j % Enc.k α = j := by rw [Nat.mul_comm]; exact Nat.div_add_mod ..
    have h2 := flat_get (l.take cnt) _ hi _ (Nat.mod_lt j hk)
    rw [ej, hj] at h2
    have h3 := (h.take cnt).cell b o rfl _ hi (j % Enc.k α) v h2.symm
    rw [addr_add]
    rwa [Nat.add_assoc, ej] at h3
/-- The first cells of a stretch of one's own row. -/
theorem first_row {g o m cap cnt : Nat} {c : Array Value} {T' : TypeId} (hg : w.heap[g]? = some (.cells c T' (0, 0))) (hl : o + cnt * k ≤ c.size) : (Builtin.firstCells k cnt (.slice (some ⟨g, o, none⟩) m cap)).run P w = .ok ((c.toList.drop o).take (cnt * k)).toArray w := by
  refine run_firstCells_some w _ cnt ⟨g, o, none⟩ m cap _ (by rw [List.length_take, List.length_drop, Array.length_toList]; omega) fun j v hj => ?_
  rw [addr_add, cell_own hg]
  rw [List.getElem?_take] at hj
  split at hj
  · rw [List.getElem?_drop] at hj; simpa using hj
  · cases hj
theorem len_slice {p : Option Addr} {m cap : Nat} : ∀ w', (Builtin.lenOf (.slice p m cap)).run P w' = .ok m w' := fun _ => rfl
end

section
variable {E : Env} {k : List Fr} {l : Sl} {L : List Ob} {all os : List Oper} {o : Oper} {i : Nat}
/-- copy into row j. -/
theorem ops_copy (j : Nat) {x y : Operand} {t tx T T' : TypeId} {ks by_ : Nat} (ho : o.op = .call { callee := .builtin .copy, args := #[x, y], argTypes := #[t, tx] }) (hw : wantL all l o = some true) (hd : (okD E.n o.dst && knownO l o) = true)
    {g of dn dc m cnt : Nat} {c : Array Value} {yv : Value} (vs : List Value) (hx : look l x = .slice (some ⟨g, of, none⟩) dn dc) (hy : look l y = yv) (hE : elemB E.P t T ks by_ = true) (hj : L[j]? = some (bx g c T'))
    (hm : ∀ w', (Builtin.lenOf yv).run E.P w' = .ok m w') (hcnt : cnt = min m dn) (hf : ∀ w, Hs E.w0 L w → (Builtin.firstCells ks cnt yv).run E.P w = .ok vs.toArray w) (hs : of + vs.length ≤ c.size) (h1 : ∀ u ∈ vs, u.oneCell' = true)
    (h : Ops E k all os (i + 1) (putL o.dst (.int .i64 cnt) l) (L.set j (bx g (sets c of vs) T'))) : Ops E k all (o :: os) i l L := by
  refine ⟨fun a w ha hw' => ?_⟩
  simp only [Bool.and_eq_true] at hd
  have hg := wantL_spec ha hw
  refine wpListIn_step fun K hK => ?_
  rw [if_pos hg]
  have hrow : w.heap[g]? = some (.cells c T' (0, 0)) := hw'.row j hj
  have hr := run_copyO (tx := tx) (ty := o.type) hE (dc := dc) hrow hm hcnt (hf w hw') hs h1
  refine ⟨fun _ _ => trivial, ?_⟩
  rw [Oper.semAt_eq _ _ _ (fun c e => by rw [ho] at e; cases e), look_exec ha hd.2]
  have e : (execOp (look l) o).run E.P w = .ok (.value (.int .i64 cnt)) (w.setCells g of vs) := by
    simp [execOp, ho, resolve, invoke, builtin, hx, hy, hr]
  rw [e]
  exact hK _ _ (h.out _ _ (ha.put hd.1 _) (hw'.turn j hj (turn_sets g T' vs of w c hrow hs)))
theorem run_append_grow_zero {P : Program} (w : World) (t tx ty e : TypeId) (i : TypeInfo) (z : Value) (ht : P.underlying t = some (.slice e)) (hk : P.underlying tx = some (.int .i64)) (hi : P.info? e = some i) (hz : i.zero = some z) (h0 : 0 < i.size) (base : Option Addr) (sLen sCap : Nat) (olds : List Value)
    (hold : (Builtin.firstCells i.size sLen (.slice base sLen sCap)).run P w.drew = .ok olds.toArray w.drew) (n : Nat) (hn0 : 0 < n)
    (hg : sCap < sLen + n) (h63 : ((sLen + n : Nat) : Int) ≤ 9223372036854775807) (hfit : Builtin.nextslicecap (sLen + n) sCap * i.bytes ≤ 281474976710656) (hnb : n * i.bytes ≤ 281474976710656) :
    (Builtin.append_ #[t, tx] ty #[.slice base sLen sCap, .int .i64 (n : Int)]).run P w =
      .ok (.slice (some ⟨w.heap.size, 0, none⟩) (sLen + n) (grownCap w (sLen + n) sCap e))
        (w.drew.alloc (.cells (olds.toArray ++ Builtin.zeroCells z.cells n ++ Builtin.zeroCells z.cells (grownCap w (sLen + n) sCap e - (sLen + n))) e)) := by
  have hn : ¬ (sLen + n ≤ sCap) := by omega
  have h63' : ¬ (9223372036854775807 < ((sLen : Int) + (n : Int))) := by omega
  have h48' : ¬ (281474976710656 < Builtin.nextslicecap (sLen + n) sCap * i.bytes) := by omega
  have hw : IntKind.i64.wrap (n : Int) = n := wrap_fit ⟨by simp only [kmin]; omega, by simp only [kmax]; omega⟩
  have h1 : ¬ ((n : Int) < 0) := by omega
  have h2 : ¬ (281474976710656 < (n : Int) * (i.bytes : Int)) := by rw [← Int.natCast_mul]; omega
  have h3 : ¬ (n * i.size = 0) := by
    intro h
    rcases Nat.mul_eq_zero.1 h with h | h <;> omega
  have h3a : ¬ (n = 0) := by omega
  have h3b : ¬ (i.size = 0) := by omega
  simp [Builtin.append_, run_underlying ht, run_underlying hk, sizeOf, typeInfo, zeroValue, hi, hz, asInt, asIntOf, hw, h1, h2, h3a, h3b, hn, h63', h48', Question.forced, hold, newRow, grownCap]
  intro h
  exact absurd h h3

/-- append(x, make(S, n)...) where it does not fit. -/
theorem ops_appendZ {x y : Operand} {t tx T : TypeId} {ks by_ : Nat} (ho : o.op = .call { callee := .builtin .append, args := #[x, y], argTypes := #[t, tx] }) (hw : wantL all l o = some true) (hd : (okD E.n o.dst && knownO l o) = true)
    {p : Option Addr} {m cap n : Nat} (olds : List Value) (hx : look l x = .slice p m cap) (hy : look l y = .int .i64 (n : Int)) (hE : elemB E.P t T ks by_ = true) (hk : E.P.underlying tx = some (.int .i64)) (hk0 : 0 < ks)
    (hol : olds.length = m * ks) (hf : ∀ w, Hs E.w0 L w → (Builtin.firstCells ks m (.slice p m cap)).run E.P w = .ok olds.toArray w) (hn0 : 0 < n) (hg : cap < m + n) (hmax : m + n ≤ maxLen) (hb : (m + n) * by_ ≤ 140737488355328)
    (h : ∀ g c' cap', c'.size = cap' * ks → m + n ≤ cap' → cap' ≤ maxLen → c'.toList.take (m * ks) = olds → Ops E k all os (i + 1) (putL o.dst (.slice (some ⟨g, 0, none⟩) (m + n) cap') l) (bx g c' T :: L)) : Ops E k all (o :: os) i l L := by
  refine ⟨fun a w ha hw' => ?_⟩
  simp only [Bool.and_eq_true] at hd
  have hwg := wantL_spec ha hw
  obtain ⟨ht, inf, z, hi, hz, hzs, hks, hby⟩ := elemB_spec hE
  subst hks hby
  refine wpListIn_step fun K hK => ?_
  rw [if_pos hwg]
  have hfit := growslice_fits (need := m + n) (old := cap) (bytes := inf.bytes) (by omega) hb
  have hnb : n * inf.bytes ≤ 281474976710656 := Nat.le_trans (Nat.mul_le_mul_right _ (Nat.le_add_left n m)) (by omega)
  have hr := run_append_grow_zero (P := E.P) w t tx o.type T inf z ht hk hi hz hk0 p m cap olds (hf w.drew hw'.drew) n hn0 hg (by simp only [maxLen] at hmax; omega) hfit hnb
  refine ⟨fun _ _ => trivial, ?_⟩
  rw [Oper.semAt_eq _ _ _ (fun c e => by rw [ho] at e; cases e), look_exec ha hd.2]
  have e : (execOp (look l) o).run E.P w = .ok (.value (.slice (some ⟨w.heap.size, 0, none⟩) (m + n) (grownCap w (m + n) cap T))) (w.drew.alloc (.cells (olds.toArray ++ Builtin.zeroCells z.cells n ++ Builtin.zeroCells z.cells (grownCap w (m + n) cap T - (m + n))) T)) := by
    simp [execOp, ho, resolve, invoke, builtin, hx, hy, hr]
  rw [e]
  have hge := grownCap_ge w (m + n) cap T
  refine hK _ _ ((h _ _ _ ?_ hge (grownCap_le_maxLen w (m + n) cap T hmax) ?_).out _ _ (ha.put hd.1 _) (hw'.drew.cons _))
  · rw [Array.size_append, Array.size_append, size_zeroCells, size_zeroCells, hzs]
    simp only [List.size_toArray, hol, ← Nat.add_mul]
    congr 1; omega
  · rw [Array.toList_append, Array.toList_append]
    simp only [List.toList_toArray, List.append_assoc]
    rw [List.take_append_of_le_length (by rw [hol]; exact Nat.le_refl _), List.take_of_length_le (by rw [hol]; exact Nat.le_refl _)]
end
end Go.Proofs.Ytfhlmijdokfdpaa
