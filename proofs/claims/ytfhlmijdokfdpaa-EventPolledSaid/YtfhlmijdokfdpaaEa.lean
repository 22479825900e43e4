/- A walker: straight code over named cells is reckoned by the kernel, not walked. This text: memory (blocks that are one's own, of any make), the reckoning of one operation. -/
import Derived.Test.YtfhlmijdokfdpaaWu
import Derived.Test.YtfhlmijdokfdpaaKit
namespace Go.Proofs.Ytfhlmijdokfdpaa
open Go Go.RowKit

/-- A block of one's own, and what stands there. -/
abbrev Ob := Nat × Obj

structure Hs (w0 : World) (M : List Ob) (w : World) : Prop where
  rows : ∀ r ∈ M, w.heap[r.1]? = some r.2
  low : ∀ r ∈ M, w0.heap.size ≤ r.1
  apart : (M.map (·.1)).Nodup
  below : Below w0.heap.size w0 w

/-- w1 is w but for block g, where o stands now. -/
structure Turn (g : Nat) (o : Obj) (w w1 : World) : Prop where
  row : w1.heap[g]? = some o
  rest : ∀ k, k ≠ g → w1.heap[k]? = w.heap[k]?
  size : w1.heap.size = w.heap.size
  os : w1.os = w.os
  tape : w1.tape = w.tape
  output : w1.output = w.output

theorem Turn.below {g : Nat} {o : Obj} {w w1 w0 : World} {B : Nat} (t : Turn g o w w1) (hg : B ≤ g) (h : Below B w0 w) : Below B w0 w1 :=
  ⟨t.os.trans h.os, t.tape.trans h.tape, t.output.trans h.output, by rw [t.size]; exact h.size, fun k hk => (t.rest k (by omega)).trans (h.block k hk)⟩

section
variable {w0 w w1 : World} {M M' : List Ob} {g : Nat} {o o' : Obj}
theorem below_two' {B : Nat} (h : Below B w0 w) (hB : B ≤ w0.heap.size) (h1 : Below w.heap.size w w1) : Below B w0 w1 := h.trans (h1.mono (Nat.le_trans hB h.size))
theorem Hs.start (w : World) : Hs w [] w := ⟨fun _ h => (by cases h), fun _ h => (by cases h), by simp, Below.refl _ _⟩
theorem Hs.row (h : Hs w0 M w) (i : Nat) (e : M[i]? = some (g, o)) : w.heap[g]? = some o := h.rows _ (List.mem_of_getElem? e)
theorem hs_lt (h : w.heap[g]? = some o) : g < w.heap.size := (Array.getElem?_eq_some_iff.1 h).1
theorem Hs.kept (h : Hs w0 M w) (hb : Below w.heap.size w w1) : Hs w0 M w1 :=
  ⟨fun r hr => (hb.block r.1 (hs_lt (h.rows r hr))).trans (h.rows r hr), h.low, h.apart, below_two' h.below (Nat.le_refl _) hb⟩
theorem Hs.drew (h : Hs w0 M w) : Hs w0 M w.drew := ⟨h.rows, h.low, h.apart, h.below.drew⟩
theorem Hs.perm (h : Hs w0 M w) (p : M.Perm M') : Hs w0 M' w :=
  ⟨fun r hr => h.rows r (p.mem_iff.2 hr), fun r hr => h.low r (p.mem_iff.2 hr), (p.map _).nodup_iff.1 h.apart, h.below⟩
theorem Hs.sub (h : Hs w0 M w) (s : M'.Sublist M) : Hs w0 M' w :=
  ⟨fun r hr => h.rows r (s.subset hr), fun r hr => h.low r (s.subset hr), h.apart.sublist (s.map _), h.below⟩
theorem Hs.cons (h : Hs w0 M w) (o : Obj) : Hs w0 ((w.heap.size, o) :: M) (w.alloc o) := by
  refine ⟨fun r hr => ?_, fun r hr => ?_, ?_, h.below.alloc h.below.size _⟩
  · rcases List.mem_cons.1 hr with rfl | h1
    · exact heap_top w o _ rfl
    · exact (Below.heap_alloc w o _ (hs_lt (h.rows r h1))).trans (h.rows r h1)
  · rcases List.mem_cons.1 hr with rfl | h1
    · exact h.below.size
    · exact h.low r h1
  · simp only [List.map_cons, List.nodup_cons]
    refine ⟨fun hm => ?_, h.apart⟩
    obtain ⟨r, hr, he⟩ := List.mem_map.1 hm
    have := hs_lt (h.rows r hr)
    omega
theorem Hs.turnHead (h : Hs w0 ((g, o) :: M) w) (t : Turn g o' w w1) : Hs w0 ((g, o') :: M) w1 := by
  have hn := h.apart
  simp only [List.map_cons, List.nodup_cons] at hn
  refine ⟨fun r hr => ?_, fun r hr => ?_, by simpa using h.apart, t.below (h.low _ (List.mem_cons_self ..)) h.below⟩
  · rcases List.mem_cons.1 hr with rfl | h1
    · exact t.row
    · exact (t.rest r.1 fun e => hn.1 (List.mem_map.2 ⟨r, h1, e⟩)).trans (h.rows r (List.mem_cons_of_mem _ h1))
  · rcases List.mem_cons.1 hr with rfl | h1
    · exact h.low (g, o) (List.mem_cons_self ..)
    · exact h.low r (List.mem_cons_of_mem _ h1)
theorem ob_split {α : Type} : ∀ (l : List α) (i : Nat) (x : α), l[i]? = some x → ∀ y, ∃ R, l.Perm (x :: R) ∧ (l.set i y).Perm (y :: R)
  | [], _, _, h, _ => by simp at h
  | a :: l, 0, x, h, y => by
    simp at h; subst h
    exact ⟨l, List.Perm.refl _, List.Perm.refl _⟩
  | a :: l, i + 1, x, h, y => by
    obtain ⟨R, h1, h2⟩ := ob_split l i x (by simpa using h) y
    exact ⟨a :: R, (h1.cons a).trans (List.Perm.swap ..), by rw [List.set_cons_succ]; exact (h2.cons a).trans (List.Perm.swap ..)⟩
theorem Hs.turn (h : Hs w0 M w) (i : Nat) (e : M[i]? = some (g, o)) (t : Turn g o' w w1) : Hs w0 (M.set i (g, o')) w1 := by
  obtain ⟨R, h1, h2⟩ := ob_split M i _ e (g, o')
  exact ((h.perm h1).turnHead t).perm h2.symm

theorem turn_cell {c : Array Value} {T : TypeId} (h : w.heap[g]? = some (.cells c T (0, 0))) (i : Nat) (v : Value) : Turn g (.cells (c.setIfInBounds i v) T (0, 0)) w (w.setCell ⟨g, i, none⟩ v) :=
  ⟨heap_setCell_same w g i _ _ v h, fun j hj => heap_setCell_other w _ j _ hj, by simp [World.setCell], rfl, rfl, rfl⟩
theorem turn_obj (h : w.heap[g]? = some o) (o' : Obj) : Turn g o' w { w with heap := w.heap.setIfInBounds g o' } :=
  ⟨by simp [hs_lt h], fun k hk => by simp [Array.getElem?_setIfInBounds, Ne.symm hk], by simp, rfl, rfl, rfl⟩
theorem cell_own {c : Array Value} {T : TypeId} {f : Nat × Nat} (h : w.heap[g]? = some (.cells c T f)) (i : Nat) : w.cell? ⟨g, i, none⟩ = c[i]? := by simp [World.cell?, h]
theorem froz_own {c : Array Value} {T : TypeId} (h : w.heap[g]? = some (.cells c T (0, 0))) (i : Nat) : w.frozen? ⟨g, i, none⟩ = false := by simp [World.frozen?, h]
end

/-- Where the next cell that a step touches stands. -/
inductive Src where
  | own (j off : Nat)
  | ownp (j off : Nat) (v : Value)
  | out (a : Addr) (v : Value)
  | obj (j : Nat)

structure Mst where
  L : List Ob
  src : List Src
  k : Nat

structure Res (α : Type) where
  a : α
  m : Mst
  rq : List Prop
  tr : List (Addr × Addr)

def Res.note {α : Type} (p : List Prop) (t : List (Addr × Addr)) : Option (Res α) → Option (Res α)
  | some r => some { r with rq := p ++ r.rq, tr := t ++ r.tr }
  | none => none

def isCells : Obj → Bool
  | .cells .. => true
  | _ => false

/-- What a step does, over the blocks L: 'src' says where its cells stand. -/
def evS (q : Bool) (P : Program) (w0 : World) (γ : Nat → Nat) {α : Type} : Sem α → Mst → Option (Res α)
  | .pure a, m => some ⟨a, m, [], []⟩
  | .load _ a k, m => match m.src with
    | .own j off :: s => match m.L[j]? with
      | some (g, .cells c _ _) => match c.toList[off]? with
        | some v => Res.note [] [(a, ⟨g, off, none⟩)] (evS q P w0 γ (k v) { m with src := s })
        | none => none
      | _ => none
    | .ownp j off v :: s => match m.L[j]? with
      | some (g, .cells c _ _) => Res.note [c[off]? = some v] [(a, ⟨g, off, none⟩)] (evS q P w0 γ (k v) { m with src := s })
      | _ => none
    | .out b v :: s => Res.note [w0.cell? b = some v] [(a, b)] (evS q P w0 γ (k v) { m with src := s })
    | _ => none
  | .store _ a v k, m => if v.oneCell' && !q then match m.src with
    | .own j off :: s => match m.L[j]? with
      | some (g, .cells c T (0, 0)) => if off < c.toList.length then Res.note [] [(a, ⟨g, off, none⟩)] (evS q P w0 γ k { m with L := m.L.set j (g, .cells (c.setIfInBounds off v) T (0, 0)), src := s }) else none
      | _ => none
    | .ownp j off _ :: s => match m.L[j]? with
      | some (g, .cells c T (0, 0)) => Res.note [off < c.size] [(a, ⟨g, off, none⟩)] (evS q P w0 γ k { m with L := m.L.set j (g, .cells (c.setIfInBounds off v) T (0, 0)), src := s })
      | _ => none
    | _ => none else none
  | .new o k, m => if q then none else evS q P w0 γ (k (γ m.k)) { m with L := (γ m.k, o) :: m.L, k := m.k + 1 }
  | .program k, m => evS q P w0 γ (k P) m
  | .mark _ k, m => evS q P w0 γ k m
  | .choose qu k, m => if qu.forced then evS q P w0 γ (k 0) m else none
  | .getObj r k, m => match m.src with
    | .obj j :: s => match m.L[j]? with
      | some (g, o) => if isCells o then none else Res.note [] [(⟨r, 0, none⟩, ⟨g, 0, none⟩)] (evS q P w0 γ (k o) { m with src := s })
      | _ => none
    | _ => none
  | .setObj r o' k, m => if q then none else match m.src with
    | .obj j :: s => match m.L[j]? with
      | some (g, o) => if isCells o then none else Res.note [] [(⟨r, 0, none⟩, ⟨g, 0, none⟩)] (evS q P w0 γ k { m with L := m.L.set j (g, o'), src := s })
      | _ => none
    | _ => none
  | _, _ => none

def AllP : List Prop → Prop
  | [] => True
  | [p] => p
  | p :: l => p ∧ AllP l
theorem allP_mem : ∀ {l : List Prop}, AllP l → ∀ p ∈ l, p
  | [], _, _, h => by cases h
  | [q], h, p, hp => by rcases List.mem_singleton.1 hp with rfl; exact h
  | q :: r :: l, h, p, hp => by
    rcases List.mem_cons.1 hp with rfl | hp
    · exact h.1
    · exact allP_mem h.2 p hp

section
variable {q : Bool} {P : Program} {w0 : World} {γ : Nat → Nat} {B : Nat}
theorem note_some {α : Type} {p : List Prop} {t : List (Addr × Addr)} {x : Option (Res α)} {r : Res α} (h : Res.note p t x = some r) : ∃ r', x = some r' ∧ r.a = r'.a ∧ r.m = r'.m ∧ r.rq = p ++ r'.rq ∧ r.tr = t ++ r'.tr := by
  cases x with
  | none => cases h
  | some r' => simp only [Res.note, Option.some.injEq] at h; subst h; exact ⟨r', rfl, rfl, rfl, rfl, rfl⟩

theorem evS_run {α : Type} : ∀ (s : Sem α) (m : Mst) (r : Res α) (w : World), evS q P w0 γ s m = some r → (∀ p ∈ r.tr, p.1 = p.2) → (∀ p ∈ r.rq, p) → Hs w0 m.L w → (∀ i, γ i = B + i) → w.heap.size = B + m.k →
    ∃ w', s.run P w = .ok r.a w' ∧ Hs w0 r.m.L w' ∧ w'.heap.size = B + r.m.k := by
  intro s
  induction s with
  | pure a =>
    intro m r w h _ _ hs hγ hz
    simp only [evS, Option.some.injEq] at h; subst h
    exact ⟨w, rfl, hs, hz⟩
  | load md a k ih =>
    intro m r w h ht hq hs hγ hz
    simp only [evS] at h
    split at h <;> try cases h
    · rename_i j off s hsrc
      split at h <;> try cases h
      rename_i g c T f hj
      split at h <;> try cases h
      rename_i v hv
      obtain ⟨r', h1, h2, h3, h4, h5⟩ := note_some h
      have ha : a = ⟨g, off, none⟩ := ht (a, _) (by rw [h5]; simp)
      have hc : w.cell? a = some v := by rw [ha, cell_own (hs.row j hj)]; simpa using hv
      obtain ⟨w', e1, e2, e3⟩ := ih v _ r' w h1 (fun p hp => ht p (by rw [h5]; simp [hp])) (fun p hp => hq p (by rw [h4]; simpa using hp)) hs hγ hz
      exact ⟨w', by simp only [Sem.run, hc]; rw [e1, h2], by rw [h3]; exact e2, by rw [h3]; exact e3⟩
    · rename_i j off v s hsrc
      split at h <;> try cases h
      rename_i g c T f hj
      obtain ⟨r', h1, h2, h3, h4, h5⟩ := note_some h
      have ha : a = ⟨g, off, none⟩ := ht (a, _) (by rw [h5]; simp)
      have hv : c[off]? = some v := hq _ (by rw [h4]; simp)
      have hc : w.cell? a = some v := by rw [ha, cell_own (hs.row j hj)]; exact hv
      obtain ⟨w', e1, e2, e3⟩ := ih v _ r' w h1 (fun p hp => ht p (by rw [h5]; simp [hp])) (fun p hp => hq p (by rw [h4]; exact List.mem_append_right _ hp)) hs hγ hz
      exact ⟨w', by simp only [Sem.run, hc]; rw [e1, h2], by rw [h3]; exact e2, by rw [h3]; exact e3⟩
    · rename_i b v s hsrc
      obtain ⟨r', h1, h2, h3, h4, h5⟩ := note_some h
      have ha : a = b := ht (a, b) (by rw [h5]; simp)
      have hv : w0.cell? b = some v := hq _ (by rw [h4]; simp)
      have hlt : b.block < w0.heap.size := by
        rcases Nat.lt_or_ge b.block w0.heap.size with h | h
        · exact h
        · simp [World.cell?, Array.getElem?_eq_none h] at hv
      have hc : w.cell? a = some v := by rw [ha, hs.below.cell hlt]; exact hv
      obtain ⟨w', e1, e2, e3⟩ := ih v _ r' w h1 (fun p hp => ht p (by rw [h5]; simp [hp])) (fun p hp => hq p (by rw [h4]; exact List.mem_append_right _ hp)) hs hγ hz
      exact ⟨w', by simp only [Sem.run, hc]; rw [e1, h2], by rw [h3]; exact e2, by rw [h3]; exact e3⟩
  | store md a v k ih =>
    intro m r w h ht hq hs hγ hz
    simp only [evS] at h
    split at h <;> try cases h
    rename_i h1c
    simp only [Bool.and_eq_true] at h1c
    replace h1c := h1c.1
    have run : ∀ (g off : Nat) (c : Array Value) (T : TypeId), w.heap[g]? = some (.cells c T (0, 0)) → off < c.size → a = ⟨g, off, none⟩ → (Sem.store md a v k).run P w = k.run P (w.setCell a v) := fun g off c T hg ho ha => by
      have hc : w.cell? a = some c[off] := by rw [ha, cell_own hg]; simp [ho]
      have hf : w.frozen? a = false := by rw [ha]; exact froz_own hg off
      cases v <;> simp [Value.oneCell'] at h1c <;> simp [Sem.run, hc, hf]
    split at h <;> try cases h
    · rename_i j off s hsrc
      split at h <;> try cases h
      rename_i g c T hj
      split at h <;> try cases h
      rename_i ho
      obtain ⟨r', h1, h2, h3, h4, h5⟩ := note_some h
      have ha : a = ⟨g, off, none⟩ := ht (a, _) (by rw [h5]; simp)
      have hg := hs.row j hj
      obtain ⟨w', e1, e2, e3⟩ := ih _ r' (w.setCell a v) h1 (fun p hp => ht p (by rw [h5]; simp [hp])) (fun p hp => hq p (by rw [h4]; simpa using hp)) (by rw [ha]; exact hs.turn j hj (turn_cell hg off v)) hγ (by rw [ha, (turn_cell hg off v).size]; exact hz)
      exact ⟨w', by rw [run g off c T hg (by simpa using ho) ha, e1, h2], by rw [h3]; exact e2, by rw [h3]; exact e3⟩
    · rename_i j off u s hsrc
      split at h <;> try cases h
      rename_i g c T hj
      obtain ⟨r', h1, h2, h3, h4, h5⟩ := note_some h
      have ha : a = ⟨g, off, none⟩ := ht (a, _) (by rw [h5]; simp)
      have ho : off < c.size := hq _ (by rw [h4]; simp)
      have hg := hs.row j hj
      obtain ⟨w', e1, e2, e3⟩ := ih _ r' (w.setCell a v) h1 (fun p hp => ht p (by rw [h5]; simp [hp])) (fun p hp => hq p (by rw [h4]; exact List.mem_append_right _ hp)) (by rw [ha]; exact hs.turn j hj (turn_cell hg off v)) hγ (by rw [ha, (turn_cell hg off v).size]; exact hz)
      exact ⟨w', by rw [run g off c T hg ho ha, e1, h2], by rw [h3]; exact e2, by rw [h3]; exact e3⟩
  | new o k ih =>
    intro m r w h ht hq hs hγ hz
    simp only [evS] at h
    split at h <;> try cases h
    have e : γ m.k = w.heap.size := by rw [hγ, hz]
    obtain ⟨w', e1, e2, e3⟩ := ih (γ m.k) _ r (w.alloc o) h ht hq (by simp only [e]; exact hs.cons o) hγ (by simp only [alloc_size, hz]; omega)
    refine ⟨w', ?_, e2, e3⟩
    simp only [Sem.run]
    rw [← e]
    exact e1
  | program k ih =>
    intro m r w h ht hq hs hγ hz
    simp only [evS] at h
    exact ih P m r w h ht hq hs hγ hz
  | mark mk k ih =>
    intro m r w h ht hq hs hγ hz
    simp only [evS] at h
    exact ih m r w h ht hq hs hγ hz
  | choose q k ih =>
    intro m r w h ht hq hs hγ hz
    simp only [evS] at h
    split at h <;> try cases h
    rename_i hf
    obtain ⟨w', e1, e2⟩ := ih 0 m r w h ht hq hs hγ hz
    exact ⟨w', by simp only [Sem.run, hf, if_true]; exact e1, e2⟩
  | getObj rr k ih =>
    intro m r w h ht hq hs hγ hz
    simp only [evS] at h
    split at h <;> try cases h
    split at h <;> try cases h
    rename_i g o hj
    split at h <;> try cases h
    rename_i hnc
    obtain ⟨r', h1, h2, h3, h4, h5⟩ := note_some h
    have ha : rr = g := by have := ht _ (by rw [h5]; exact List.mem_cons_self ..); simpa using this
    have hg := hs.row _ hj
    obtain ⟨w', e1, e2, e3⟩ := ih o _ r' w h1 (fun p hp => ht p (by rw [h5]; simp [hp])) (fun p hp => hq p (by rw [h4]; simpa using hp)) hs hγ hz
    refine ⟨w', ?_, by rw [h3]; exact e2, by rw [h3]; exact e3⟩
    subst ha
    cases o <;> simp [isCells] at hnc <;> simp only [Sem.run, hg] <;> rw [e1, h2]
  | setObj rr o' k ih =>
    intro m r w h ht hq hs hγ hz
    simp only [evS] at h
    split at h <;> try cases h
    split at h <;> try cases h
    split at h <;> try cases h
    rename_i g o hj
    split at h <;> try cases h
    rename_i hnc
    obtain ⟨r', h1, h2, h3, h4, h5⟩ := note_some h
    have ha : rr = g := by have := ht _ (by rw [h5]; exact List.mem_cons_self ..); simpa using this
    have hg := hs.row _ hj
    subst ha
    obtain ⟨w', e1, e2, e3⟩ := ih _ r' { w with heap := w.heap.setIfInBounds rr o' } h1 (fun p hp => ht p (by rw [h5]; simp [hp])) (fun p hp => hq p (by rw [h4]; simpa using hp)) (hs.turn _ hj (turn_obj hg o')) hγ (by rw [(turn_obj hg o').size]; exact hz)
    refine ⟨w', ?_, by rw [h3]; exact e2, by rw [h3]; exact e3⟩
    cases o <;> simp [isCells] at hnc <;> simp only [Sem.run, hg] <;> rw [e1, h2]
  | _ =>
    intro m r w h
    simp only [evS] at h
    try cases h

/-- A quiet step: the world stays. -/
theorem evS_quiet {α : Type} : ∀ (s : Sem α) (m : Mst) (r : Res α), evS true P w0 γ s m = some r → (∀ p ∈ r.tr, p.1 = p.2) → (∀ p ∈ r.rq, p) → r.m.L = m.L ∧ ∀ w, Hs w0 m.L w → s.run P w = .ok r.a w := by
  intro s
  induction s with
  | pure a =>
    intro m r h _ _
    simp only [evS, Option.some.injEq] at h; subst h
    exact ⟨rfl, fun w _ => rfl⟩
  | load md a k ih =>
    intro m r h ht hq
    simp only [evS] at h
    split at h <;> try cases h
    · rename_i j off s hsrc
      split at h <;> try cases h
      rename_i g c T f hj
      split at h <;> try cases h
      rename_i v hv
      obtain ⟨r', h1, h2, h3, h4, h5⟩ := note_some h
      have ha : a = ⟨g, off, none⟩ := ht (a, _) (by rw [h5]; simp)
      obtain ⟨e1, e2⟩ := ih v _ r' h1 (fun p hp => ht p (by rw [h5]; simp [hp])) (fun p hp => hq p (by rw [h4]; simpa using hp))
      refine ⟨by rw [h3]; exact e1, fun w hs => ?_⟩
      have hc : w.cell? a = some v := by rw [ha, cell_own (hs.row j hj)]; simpa using hv
      simp only [Sem.run, hc]
      rw [e2 w hs, h2]
    · rename_i j off v s hsrc
      split at h <;> try cases h
      rename_i g c T f hj
      obtain ⟨r', h1, h2, h3, h4, h5⟩ := note_some h
      have ha : a = ⟨g, off, none⟩ := ht (a, _) (by rw [h5]; simp)
      have hv : c[off]? = some v := hq _ (by rw [h4]; simp)
      obtain ⟨e1, e2⟩ := ih v _ r' h1 (fun p hp => ht p (by rw [h5]; simp [hp])) (fun p hp => hq p (by rw [h4]; exact List.mem_append_right _ hp))
      refine ⟨by rw [h3]; exact e1, fun w hs => ?_⟩
      have hc : w.cell? a = some v := by rw [ha, cell_own (hs.row j hj)]; exact hv
      simp only [Sem.run, hc]
      rw [e2 w hs, h2]
    · rename_i b v s hsrc
      obtain ⟨r', h1, h2, h3, h4, h5⟩ := note_some h
      have ha : a = b := ht (a, b) (by rw [h5]; simp)
      have hv : w0.cell? b = some v := hq _ (by rw [h4]; simp)
      have hlt : b.block < w0.heap.size := by
        rcases Nat.lt_or_ge b.block w0.heap.size with h | h
        · exact h
        · simp [World.cell?, Array.getElem?_eq_none h] at hv
      obtain ⟨e1, e2⟩ := ih v _ r' h1 (fun p hp => ht p (by rw [h5]; simp [hp])) (fun p hp => hq p (by rw [h4]; exact List.mem_append_right _ hp))
      refine ⟨by rw [h3]; exact e1, fun w hs => ?_⟩
      have hc : w.cell? a = some v := by rw [ha, hs.below.cell hlt]; exact hv
      simp only [Sem.run, hc]
      rw [e2 w hs, h2]
  | program k ih =>
    intro m r h ht hq
    simp only [evS] at h
    exact ih P m r h ht hq
  | mark mk k ih =>
    intro m r h ht hq
    simp only [evS] at h
    exact ih m r h ht hq
  | choose q k ih =>
    intro m r h ht hq
    simp only [evS] at h
    split at h <;> try cases h
    rename_i hf
    obtain ⟨e1, e2⟩ := ih 0 m r h ht hq
    exact ⟨e1, fun w hs => by simp only [Sem.run, hf, if_true]; exact e2 w hs⟩
  | getObj rr k ih =>
    intro m r h ht hq
    simp only [evS] at h
    split at h <;> try cases h
    split at h <;> try cases h
    rename_i g o hj
    split at h <;> try cases h
    rename_i hnc
    obtain ⟨r', h1, h2, h3, h4, h5⟩ := note_some h
    have ha : rr = g := by have := ht _ (by rw [h5]; exact List.mem_cons_self ..); simpa using this
    obtain ⟨e1, e2⟩ := ih o _ r' h1 (fun p hp => ht p (by rw [h5]; simp [hp])) (fun p hp => hq p (by rw [h4]; simpa using hp))
    refine ⟨by rw [h3]; exact e1, fun w hs => ?_⟩
    have hg := hs.row _ hj
    subst ha
    cases o <;> simp [isCells] at hnc <;> simp only [Sem.run, hg] <;> rw [e2 w hs, h2]
  | _ =>
    intro m r h
    simp [evS] at h
end
end Go.Proofs.Ytfhlmijdokfdpaa
