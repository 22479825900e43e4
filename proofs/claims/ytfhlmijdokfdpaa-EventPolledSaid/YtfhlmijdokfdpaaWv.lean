/- The class of worlds of such a region: a list of rows that stand, and the rows of the boxes and calls that have come up. -/
import Derived.Test.YtfhlmijdokfdpaaWu
import Derived.Test.YtfhlmijdokfdpaaKit
namespace Go.Proofs.Ytfhlmijdokfdpaa
open Go Go.RowKit

theorem below_two {B : Nat} {w0 w w1 : World} (h : Below B w0 w) (hB : B ≤ w0.heap.size) (h1 : Below w.heap.size w w1) : Below B w0 w1 := h.trans (h1.mono (Nat.le_trans hB h.size))

/-- A row: its block, its cells, its type. -/
abbrev Rw := Nat × Array Value × TypeId

/-- Rows that stand, in blocks apart, made since w0; what was there in w0 is untouched. -/
structure Has (w0 : World) (M : List Rw) (w : World) : Prop where
  rows : ∀ r ∈ M, IsR w r.1 r.2.1 r.2.2
  low : ∀ r ∈ M, w0.heap.size ≤ r.1
  apart : (M.map (·.1)).Nodup
  below : Below w0.heap.size w0 w

section
variable {w0 w w1 : World} {M M' : List Rw} {g : Nat} {cs cs' : Array Value} {t t' : TypeId}
theorem Has.start (w : World) : Has w [] w := ⟨fun _ h => (by cases h), fun _ h => (by cases h), by simp, Below.refl _ _⟩
theorem Has.row (h : Has w0 M w) (i : Nat) (e : M[i]? = some (g, cs, t)) : IsR w g cs t := h.rows _ (List.mem_of_getElem? e)
theorem Has.kept (h : Has w0 M w) (hb : Below w.heap.size w w1) : Has w0 M w1 :=
  ⟨fun r hr => (h.rows r hr).kept hb, h.low, h.apart, below_two h.below (Nat.le_refl _) hb⟩
theorem Has.drew (h : Has w0 M w) : Has w0 M w.drew := ⟨h.rows, h.low, h.apart, h.below.drew⟩
theorem Has.perm (h : Has w0 M w) (p : M.Perm M') : Has w0 M' w :=
  ⟨fun r hr => h.rows r (p.mem_iff.2 hr), fun r hr => h.low r (p.mem_iff.2 hr), (p.map _).nodup_iff.1 h.apart, h.below⟩
theorem Has.sub (h : Has w0 M w) (s : M'.Sublist M) : Has w0 M' w :=
  ⟨fun r hr => h.rows r (s.subset hr), fun r hr => h.low r (s.subset hr), h.apart.sublist (s.map _), h.below⟩
theorem Has.cons (h : Has w0 M w) (cs : Array Value) (t : TypeId) : Has w0 ((w.heap.size, cs, t) :: M) (w.alloc (Obj.cells cs t)) := by
  refine ⟨fun r hr => ?_, fun r hr => ?_, ?_, h.below.alloc h.below.size _⟩
  · rcases List.mem_cons.1 hr with rfl | h1
    · unfold IsR; exact (by repeat (first | (with_reducible refine heap_top _ _ _ ?_; first | (simp; done) | (simp; omega)) | rw [Below.heap_alloc _ _ _ (by first | (simp; done) | (simp; omega))]))
    · exact (h.rows r h1).alloc _
  · rcases List.mem_cons.1 hr with rfl | h1
    · exact h.below.size
    · exact h.low r h1
  · simp only [List.map_cons, List.nodup_cons]
    refine ⟨fun hm => ?_, h.apart⟩
    obtain ⟨r, hr, he⟩ := List.mem_map.1 hm
    have := (h.rows r hr).lt
    omega
theorem Has.new (h : Has w0 M w) (cs : Array Value) (t : TypeId) : Has w0 (M ++ [(w.heap.size, cs, t)]) (w.alloc (Obj.cells cs t)) :=
  (h.cons cs t).perm (List.perm_append_comm (l₁ := [_]))
theorem Has.putHead (h : Has w0 ((g, cs, t) :: M) w) (hp : Put g cs' t' w w1) : Has w0 ((g, cs', t') :: M) w1 := by
  have hn := h.apart
  simp only [List.map_cons, List.nodup_cons] at hn
  refine ⟨fun r hr => ?_, fun r hr => ?_, by simpa using h.apart, hp.below _ _ (h.low _ (List.mem_cons_self ..)) h.below⟩
  · rcases List.mem_cons.1 hr with rfl | h1
    · exact hp.row
    · exact (h.rows r (List.mem_cons_of_mem _ h1)).put hp fun e => hn.1 (List.mem_map.2 ⟨r, h1, e⟩)
  · rcases List.mem_cons.1 hr with rfl | h1
    · exact h.low (g, cs, t) (List.mem_cons_self ..)
    · exact h.low r (List.mem_cons_of_mem _ h1)
theorem list_split {α : Type} : ∀ (l : List α) (i : Nat) (x : α), l[i]? = some x → ∀ y, ∃ R, l.Perm (x :: R) ∧ (l.set i y).Perm (y :: R)
  | [], _, _, h, _ => by simp at h
  | a :: l, 0, x, h, y => by
    simp at h; subst h
    exact ⟨l, List.Perm.refl _, List.Perm.refl _⟩
  | a :: l, i + 1, x, h, y => by
    obtain ⟨R, h1, h2⟩ := list_split l i x (by simpa using h) y
    exact ⟨a :: R, (h1.cons a).trans (List.Perm.swap ..), by rw [List.set_cons_succ]; exact (h2.cons a).trans (List.Perm.swap ..)⟩
/-- Row i is written over. -/
theorem Has.put (h : Has w0 M w) (i : Nat) (e : M[i]? = some (g, cs, t)) (hp : Put g cs' t' w w1) : Has w0 (M.set i (g, cs', t')) w1 := by
  obtain ⟨R, h1, h2⟩ := list_split M i _ e (g, cs', t')
  exact ((h.perm h1).putHead hp).perm h2.symm
theorem Has.more (h : Has w0 M w) (hb : Below w.heap.size w w1) (N : List Rw) (hr : ∀ r ∈ N, IsR w1 r.1 r.2.1 r.2.2 ∧ w.heap.size ≤ r.1) (hn : (N.map (·.1)).Nodup) : Has w0 (M ++ N) w1 := by
  refine ⟨fun r h1 => ?_, fun r h1 => ?_, ?_, below_two h.below (Nat.le_refl _) hb⟩
  · rcases List.mem_append.1 h1 with h1 | h1
    · exact (h.rows r h1).kept hb
    · exact (hr r h1).1
  · rcases List.mem_append.1 h1 with h1 | h1
    · exact h.low r h1
    · exact Nat.le_trans h.below.size (hr r h1).2
  · rw [List.map_append, List.nodup_append]
    refine ⟨h.apart, hn, fun a ha b hb' => ?_⟩
    obtain ⟨r, hr1, rfl⟩ := List.mem_map.1 ha
    obtain ⟨s, hs1, rfl⟩ := List.mem_map.1 hb'
    have := (h.rows r hr1).lt
    have := (hr s hs1).2
    omega
end

/-- A goal that is not looked into (Lean's elaborator reduces a goal's head: of a walk that means to run it). -/
structure Stay (p : Prop) : Prop where out : p

/-- What an operation that has come up adds to the rows: nothing (not listed); a new box, which operation s writes; what a call made. -/
inductive Sp
  | box (T : TypeId) (z : Array Value) (s : Nat)
  | fam (f : Value → List Rw)
  | own (g : Nat) (z : Array Value) (T : TypeId)

def Sp.target : Sp → Option Nat
  | .box _ _ s => some s
  | _ => none
def cellsOf : Value → Array Value
  | .agg cs => cs
  | v => #[v]
def boxRow (T : TypeId) (c : Array Value) : Value → List Rw
  | .pointer (some ⟨g, 0, none⟩) => [(g, c, T)]
  | _ => []
def rowsAt (δ : Rec) (x : Nat × Sp) : List Rw :=
  match x.2, δ x.1 with
  | .box T z s, some u => boxRow T (match δ s with | some r => cellsOf r | none => z) u
  | .fam f, some u => f u
  | .own g z T, r => [(g, (match r with | some u => cellsOf u | none => z), T)]
  | _, none => []
def rowsOf (B : List (Nat × Sp)) (δ : Rec) : List Rw := B.flatMap (rowsAt δ)

def Cl (w0 : World) (L : List Rw) (B : List (Nat × Sp)) : Rec → World → Prop := fun δ w => Has w0 (L ++ rowsOf B δ) w

/-- Operation i is none of B's, and writes none of its boxes. -/
def plainB (B : List (Nat × Sp)) (i : Nat) : Bool := B.all fun x => x.1 != i && x.2.target != some i
def othersB (B : List (Nat × Sp)) (m i : Nat) : Bool := (List.range B.length).all fun j => j == m || match B[j]? with | some x => x.1 != i && x.2.target != some i | none => true

theorem rowsAt_set {δ : Rec} {i : Nat} {r : Value} {x : Nat × Sp} (h1 : (x.1 != i) = true) (h2 : (x.2.target != some i) = true) : rowsAt (setRec δ i r) x = rowsAt δ x := by
  obtain ⟨k, s⟩ := x
  have hk : k ≠ i := by simpa using h1
  cases s with
  | box T z s =>
    have hs : s ≠ i := fun e => by subst e; simp [Sp.target] at h2
    unfold rowsAt
    simp only [setRec_ne δ r hk]
    cases δ k with
    | none => rfl
    | some u => simp only [setRec_ne δ r hs]
  | fam f =>
    unfold rowsAt
    simp only [setRec_ne δ r hk]
    cases δ k <;> rfl
  | own g z T =>
    unfold rowsAt
    simp only [setRec_ne δ r hk]

theorem rowsOf_plain {B : List (Nat × Sp)} {i : Nat} (h : plainB B i = true) (δ : Rec) (r : Value) : rowsOf B (setRec δ i r) = rowsOf B δ := by
  unfold rowsOf plainB at *
  rw [List.all_eq_true] at h
  induction B with
  | nil => rfl
  | cons x B ih =>
    have hx := h x (List.mem_cons_self ..)
    simp only [Bool.and_eq_true] at hx
    rw [List.flatMap_cons, List.flatMap_cons, rowsAt_set hx.1 hx.2, ih fun y hy => h y (List.mem_cons_of_mem _ hy)]

theorem flat_congr {α β : Type} {f f' : α → List β} : ∀ {B : List α}, (∀ y ∈ B, f' y = f y) → B.flatMap f' = B.flatMap f
  | [], _ => rfl
  | x :: B, h => by rw [List.flatMap_cons, List.flatMap_cons, h x (List.mem_cons_self ..), flat_congr fun y hy => h y (List.mem_cons_of_mem _ hy)]
theorem flat_upd {α β : Type} (f f' : α → List β) : ∀ (B : List α) (m : Nat) (x : α), B[m]? = some x → (∀ j y, B[j]? = some y → j ≠ m → f' y = f y) → ∃ R, (B.flatMap f).Perm (f x ++ R) ∧ (B.flatMap f').Perm (f' x ++ R)
  | [], _, _, h, _ => by simp at h
  | a :: B, 0, x, h, ho => by
    simp at h; subst h
    refine ⟨B.flatMap f, by simp, ?_⟩
    have e : B.flatMap f' = B.flatMap f := by
      refine flat_congr fun y hy => ?_
      obtain ⟨j, hj⟩ := List.mem_iff_getElem?.1 hy
      exact ho (j + 1) y (by simpa using hj) (by omega)
    simp [e]
  | a :: B, m + 1, x, h, ho => by
    obtain ⟨R, h1, h2⟩ := flat_upd f f' B m x (by simpa using h) (fun j y hj hne => ho (j + 1) y (by simpa using hj) (by omega))
    have ea : f' a = f a := ho 0 a (by simp) (by omega)
    refine ⟨f a ++ R, ?_, ?_⟩
    · rw [List.flatMap_cons]
      exact (h1.append_left _).trans (by rw [← List.append_assoc, ← List.append_assoc]; exact List.perm_append_comm.append_right _)
    · rw [List.flatMap_cons, ea]
      exact (h2.append_left _).trans (by rw [← List.append_assoc, ← List.append_assoc]; exact List.perm_append_comm.append_right _)

theorem rowsOf_upd {B : List (Nat × Sp)} {m i : Nat} {x : Nat × Sp} (hx : B[m]? = some x) (h : othersB B m i = true) (δ : Rec) (r : Value) :
    ∃ R, (rowsOf B δ).Perm (rowsAt δ x ++ R) ∧ (rowsOf B (setRec δ i r)).Perm (rowsAt (setRec δ i r) x ++ R) := by
  refine flat_upd _ _ B m x hx fun j y hj hne => ?_
  unfold othersB at h
  rw [List.all_eq_true] at h
  have := h j (List.mem_range.2 (List.getElem?_eq_some_iff.1 hj).1)
  simp only [hj, Bool.or_eq_true, beq_iff_eq, hne, false_or, Bool.and_eq_true] at this
  exact rowsAt_set this.1 this.2

/-- What an operation may hand back: as listed; else the one value that it yields in all worlds in which the rows L stand. -/
def Sd (P : Program) (l : Array Oper) (w0 : World) (L : List Rw) (over : List (Nat × (Value → Prop))) : Nat → Array Value → Value → Prop := fun i vs v =>
  match over.lookup i with
  | some p => p v
  | none => match l[i]? with
    | none => False
    | some o => ∃ a w, vals a o = vs ∧ Has w0 L w ∧ ((execOp a.eval o).run P w = .ok (.value v) w ∨ (v = undef ∧ o.dst = none))

section
variable {P : Program} {l : Array Oper} {w0 : World} {L : List Rw} {B : List (Nat × Sp)} {over : List (Nat × (Value → Prop))} {Q : Act → Prop} {o : Oper} {rest : List Oper} {i : Nat} {a : Act}

theorem Cl.base {δ : Rec} {w : World} (h : Cl w0 L B δ w) : Has w0 L w := Has.sub h (List.sublist_append_left _ _)

theorem run_vals {a a' : Act} {o : Oper} (hs : ∀ cs b, o.op ≠ .select cs b) (h : vals a' o = vals a o) : execOp a'.eval o = execOp a.eval o :=
  execOp_congr o hs fun x hx => by
    have hx' : x ∈ o.op.operands := hx
    obtain ⟨k, hk, rfl⟩ := Array.mem_iff_getElem.1 hx'
    have := congrArg (fun z => z[k]?) h
    simp [vals, hk] at this
    exact this

/-- An operation that leaves the world alone: a load of a row of L, arithmetic, .. -/
theorem rs_ex (hg : Region.wanted o (yielded l a.tmps) = true) (hi : l[i]? = some o) (hs : (match o.op with | .select _ _ => false | .store _ _ _ => false | _ => o.dst.isSome) = true) (hov : (over.lookup i).isNone = true) (hp : plainB B i = true) (hw : ∃ w, Has w0 L w)
    (h : ∀ K : Act → Prop, (∀ a, Stay (wpSet P l (Cl w0 L B) (Sd P l w0 L over) Q rest (i + 1) a) → K a) → ∃ v, (∀ w, Has w0 L w → (execOp a.eval o).run P w = .ok (.value v) w) ∧ K (a.put o.dst v)) :
    Stay (wpSet P l (Cl w0 L B) (Sd P l w0 L over) Q (o :: rest) i a) := by
  refine ⟨?_⟩
  obtain ⟨v, hv, hK⟩ := h _ (fun _ h => h.out)
  have hov' : over.lookup i = none := by cases h : over.lookup i with | none => rfl | some p => rw [h] at hov; cases hov
  have hsel : ∀ cs b, o.op ≠ .select cs b := fun cs b e => by rw [e] at hs; cases hs
  have hdst : o.dst ≠ none := fun e => by
    cases hop : o.op <;> simp [hop, e] at hs
  have hrec : ∀ u, recOf o a u = u := fun u => by
    unfold recOf; split
    · rename_i e; rw [e] at hs; cases hs
    · rfl
  have mk : ∀ w, Has w0 L w → Sd P l w0 L over i (vals a o) v := fun w hw => by
    unfold Sd; rw [hov']; simp only [hi]
    exact ⟨a, w, rfl, hw, .inl (hv w hw)⟩
  have uniq : ∀ u, Sd P l w0 L over i (vals a o) u → u = v := fun u hu => by
    unfold Sd at hu; rw [hov'] at hu; simp only [hi] at hu
    obtain ⟨a', w', he, hw', hr⟩ := hu
    rcases hr with hr | hr
    · rw [run_vals hsel he, hv w' hw'] at hr
      injection hr with h1
      injection h1 with h2
      exact h2.symm
    · exact absurd hr.2 hdst
  unfold wpSet
  rw [if_pos hg]
  refine ⟨fun δ w hc hn ha => ?_, ?_, fun u hu => by rw [uniq u hu]; exact hK⟩
  · rw [hv w hc.base]
    refine ⟨mk w hc.base, ?_⟩
    unfold Cl at *
    rw [rowsOf_plain hp]
    exact hc
  · obtain ⟨w, hw⟩ := hw
    exact ⟨v, mk w hw⟩

/-- A call, its answer listed; memory grows at most, nothing of it is told. -/
theorem rs_call (hg : Region.wanted o (yielded l a.tmps) = true) (hs : (match o.op with | .store _ _ _ => false | _ => true) = true) (p : Value → Prop) (hov : over.lookup i = some p) (hp : plainB B i = true) (hex : ∃ v, p v) {f : FuncId} {args : Array Value}
    (hv : ∀ w, (execOp a.eval o).run P w = .ok (.enter f args) w) (hc : ∀ w, Has w0 L w → Calls P f args w fun e w' => ∃ v, e = .returned v ∧ p v ∧ Below w.heap.size w w')
    (h : ∀ K : Act → Prop, (∀ a, Stay (wpSet P l (Cl w0 L B) (Sd P l w0 L over) Q rest (i + 1) a) → K a) → ∀ v, p v → K (a.put o.dst v)) :
    Stay (wpSet P l (Cl w0 L B) (Sd P l w0 L over) Q (o :: rest) i a) := by
  refine ⟨?_⟩
  have hS : ∀ u, Sd P l w0 L over i (vals a o) u ↔ p u := fun u => by unfold Sd; rw [hov]
  unfold wpSet
  rw [if_pos hg]
  refine ⟨fun δ w hcl hn ha => ?_, ?_, fun u hu => h _ (fun _ h => h.out) u ((hS u).1 hu)⟩
  · rw [hv w]
    refine (hc w hcl.base).mono fun e w' ⟨v, he, hpv, hb⟩ => ⟨v, he, (hS v).2 hpv, ?_⟩
    unfold Cl at *
    rw [rowsOf_plain hp]
    exact hcl.kept hb
  · obtain ⟨v, hv⟩ := hex; exact ⟨v, (hS v).2 hv⟩

/-- A call that hands back memory of its own: the rows F v of its answer v. -/
theorem rs_fam (hg : Region.wanted o (yielded l a.tmps) = true) (hs : (match o.op with | .store _ _ _ => false | _ => true) = true) (p : Value → Prop) (hov : over.lookup i = some p) (m : Nat) (F : Value → List Rw) (hm : B[m]? = some (i, .fam F)) (hp : othersB B m i = true) (hex : ∃ v, p v) {f : FuncId} {args : Array Value}
    (hv : ∀ w, (execOp a.eval o).run P w = .ok (.enter f args) w)
    (hc : ∀ w, Has w0 L w → Calls P f args w fun e w' => ∃ v, e = .returned v ∧ p v ∧ Below w.heap.size w w' ∧ (∀ r ∈ F v, IsR w' r.1 r.2.1 r.2.2 ∧ w.heap.size ≤ r.1) ∧ ((F v).map (·.1)).Nodup)
    (h : ∀ K : Act → Prop, (∀ a, Stay (wpSet P l (Cl w0 L B) (Sd P l w0 L over) Q rest (i + 1) a) → K a) → ∀ v, p v → K (a.put o.dst v)) :
    Stay (wpSet P l (Cl w0 L B) (Sd P l w0 L over) Q (o :: rest) i a) := by
  refine ⟨?_⟩
  have hS : ∀ u, Sd P l w0 L over i (vals a o) u ↔ p u := fun u => by unfold Sd; rw [hov]
  unfold wpSet
  rw [if_pos hg]
  refine ⟨fun δ w hcl hn ha => ?_, ?_, fun u hu => h _ (fun _ h => h.out) u ((hS u).1 hu)⟩
  · rw [hv w]
    refine (hc w hcl.base).mono fun e w' ⟨v, he, hpv, hb, hr, hnd⟩ => ⟨v, he, (hS v).2 hpv, ?_⟩
    have hrec : recOf o a v = v := by
      unfold recOf; split
      · rename_i e; rw [e] at hs; cases hs
      · rfl
    rw [hrec]
    unfold Cl at *
    obtain ⟨R, h1, h2⟩ := rowsOf_upd hm hp δ v
    have e1 : rowsAt δ (i, .fam F) = [] := by simp [rowsAt, hn.not]
    have e2 : rowsAt (setRec δ i v) (i, .fam F) = F v := by simp [rowsAt, setRec_self]
    rw [e1, List.nil_append] at h1
    rw [e2] at h2
    refine (Has.more hcl hb (F v) hr hnd).perm ?_
    rw [List.append_assoc]
    exact ((h1.append_right _).trans (List.perm_append_comm.trans h2.symm)).append_left _
  · obtain ⟨v, hv⟩ := hex; exact ⟨v, (hS v).2 hv⟩

/-- A new box. -/
theorem rs_alloc (hg : Region.wanted o (yielded l a.tmps) = true) (hs : (match o.op with | .store _ _ _ => false | _ => true) = true) (hov : over.lookup i = some fun v => ∃ g, v = .pointer (some ⟨g, 0, none⟩)) (m : Nat) {T : TypeId} {z : Array Value} {s : Nat} (hm : B[m]? = some (i, .box T z s)) (hp : othersB B m i = true)
    {os : Oper} (hos : l[s]? = some os) (hsi : s ≠ i) (hse : (os.after.any fun e => Region.binds .any e && e.on == i) = true)
    (hv : ∀ w, (execOp a.eval o).run P w = .ok (.value (.pointer (some ⟨w.heap.size, 0, none⟩))) (w.alloc (Obj.cells z T)))
    (h : ∀ K : Act → Prop, (∀ a, Stay (wpSet P l (Cl w0 L B) (Sd P l w0 L over) Q rest (i + 1) a) → K a) → ∀ g : Nat, K (a.put o.dst (.pointer (some ⟨g, 0, none⟩)))) :
    Stay (wpSet P l (Cl w0 L B) (Sd P l w0 L over) Q (o :: rest) i a) := by
  refine ⟨?_⟩
  have hS : ∀ u, Sd P l w0 L over i (vals a o) u ↔ ∃ g, u = .pointer (some ⟨g, 0, none⟩) := fun u => by unfold Sd; rw [hov]
  unfold wpSet
  rw [if_pos hg]
  refine ⟨fun δ w hcl hn ha => ?_, ⟨_, (hS _).2 ⟨0, rfl⟩⟩, fun u hu => ?_⟩
  · rw [hv w]
    refine ⟨(hS _).2 ⟨_, rfl⟩, ?_⟩
    have hrec : ∀ v, recOf o a v = v := fun v => by
      unfold recOf; split
      · rename_i e; rw [e] at hs; cases hs
      · rfl
    rw [hrec]
    unfold Cl at *
    obtain ⟨R, h1, h2⟩ := rowsOf_upd hm hp δ (.pointer (some ⟨w.heap.size, 0, none⟩))
    obtain ⟨k, hk, hke⟩ := Array.any_eq_true.1 hse
    simp only [Bool.and_eq_true, beq_iff_eq] at hke
    have hds : δ s = none := by
      cases hd : δ s with
      | none => rfl
      | some u =>
        have := hn.shut s os hos (by rw [hd]; rfl) _ (Array.getElem_mem hk) hke.1
        rw [hke.2, hn.not] at this
        cases this
    have e1 : rowsAt δ (i, .box T z s) = [] := by simp [rowsAt, hn.not]
    have e2 : rowsAt (setRec δ i (.pointer (some ⟨w.heap.size, 0, none⟩))) (i, .box T z s) = [(w.heap.size, z, T)] := by
      simp [rowsAt, setRec_self, setRec_ne _ _ hsi, hds, boxRow]
    rw [e1, List.nil_append] at h1
    rw [e2] at h2
    refine (Has.cons hcl z T).perm ?_
    exact (((h1.append_left L).cons _).trans (List.perm_middle (l₁ := L)).symm).trans (by simpa using h2.symm.append_left L)
  · obtain ⟨g, rfl⟩ := (hS u).1 hu
    exact h _ (fun _ h => h.out) g
/-- A box is written, by what the region computed. -/
theorem rs_store (hg : Region.wanted o (yielded l a.tmps) = true) (hd : o.dst = none) (hi : l[i]? = some o) (hov : (over.lookup i).isNone = true) (hw : ∃ w, Has w0 L w) {Ts : TypeId} {d : Tmp} {y : Operand} (hop : o.op = .store Ts (.tmp d) y) (m : Nat) {k : Nat} {T : TypeId} {z cs : Array Value} (hm : B[m]? = some (k, .box T z i)) (hp : othersB B m i = true) (hki : k ≠ i)
    {ok : Oper} (hok : l[k]? = some ok) (hkd : ok.dst = some d) (hke : (o.after.any fun e => Region.binds .any e && e.on == k) = true) {g : Nat} (hx : a.eval (.tmp d) = .pointer (some ⟨g, 0, none⟩)) (hc : cellsOf (a.eval y) = cs)
    (hv : ∀ w, IsR w g z T → ∃ w', (execOp a.eval o).run P w = .ok .skip w' ∧ Put g cs T w w')
    (h : ∀ K : Act → Prop, (∀ a, Stay (wpSet P l (Cl w0 L B) (Sd P l w0 L over) Q rest (i + 1) a) → K a) → K (a.put o.dst undef)) :
    Stay (wpSet P l (Cl w0 L B) (Sd P l w0 L over) Q (o :: rest) i a) := by
  refine ⟨?_⟩
  have hov' : over.lookup i = none := by cases h : over.lookup i with | none => rfl | some p => rw [h] at hov; cases hov
  have hsel : ∀ cs b, o.op ≠ .select cs b := fun cs b e => by rw [hop] at e; cases e
  have hS : ∀ w, Has w0 L w → Sd P l w0 L over i (vals a o) undef := fun w hh => by
    unfold Sd; rw [hov']; simp only [hi]
    exact ⟨a, w, rfl, hh, Or.inr ⟨trivial, hd⟩⟩
  have uniq : ∀ u, Sd P l w0 L over i (vals a o) u → a.put o.dst u = a.put o.dst undef := fun u _ => by rw [hd]; rfl
  unfold wpSet
  rw [if_pos hg]
  refine ⟨fun δ w hcl hn ha => ?_, ?_, fun u hu => by rw [uniq u hu]; exact h _ (fun _ h => h.out)⟩
  · have hrec : ∀ v, recOf o a v = a.eval y := fun v => by unfold recOf; rw [hop]
    obtain ⟨e, he, hb, hon⟩ : ∃ e ∈ o.after, Region.binds .any e = true ∧ e.on = k := by
      obtain ⟨j, hj, hje⟩ := Array.any_eq_true.1 hke
      simp only [Bool.and_eq_true, beq_iff_eq] at hje
      exact ⟨_, Array.getElem_mem hj, hje.1, hje.2⟩
    have hks := hn.deps e he hb
    rw [hon] at hks
    obtain ⟨u, hu⟩ := Option.isSome_iff_exists.1 hks
    have hag := ha k ok d u hok hkd (by rw [hop]; simp [Op.operands]) hu
    rw [hx] at hag
    subst hag
    have hbase := hcl.base
    unfold Cl at *
    obtain ⟨R, h1, h2⟩ := rowsOf_upd hm hp δ (a.eval y)
    have e1 : rowsAt δ (k, .box T z i) = [(g, z, T)] := by simp [rowsAt, hu, hn.not, boxRow]
    have e2 : rowsAt (setRec δ i (a.eval y)) (k, .box T z i) = [(g, cs, T)] := by
      simp [rowsAt, setRec_self, setRec_ne _ _ hki, hu, boxRow, hc]
    rw [e1] at h1
    rw [e2] at h2
    have hh : Has w0 ((g, z, T) :: (L ++ R)) w := hcl.perm ((h1.append_left L).trans (List.perm_middle (l₁ := L)))
    obtain ⟨w', hr, hput⟩ := hv w (hh.row 0 rfl)
    rw [hr]
    refine ⟨hS w hbase, ?_⟩
    rw [hrec]
    exact (hh.putHead hput).perm ((List.perm_middle (l₁ := L)).symm.trans (h2.symm.append_left L))
  · obtain ⟨w, hw⟩ := hw
    exact ⟨undef, hS w hw⟩

theorem rows_mem {δ : Rec} {m : Nat} {x : Nat × Sp} (hm : B[m]? = some x) : ∃ R, (rowsOf B δ).Perm (rowsAt δ x ++ R) := by
  obtain ⟨R, h1, _⟩ := flat_upd (rowsAt δ) (rowsAt δ) B m x hm (fun _ _ _ _ => rfl)
  exact ⟨R, h1⟩
theorem Cl.with {δ : Rec} {w : World} (h : Cl w0 L B δ w) {m : Nat} {x : Nat × Sp} (hm : B[m]? = some x) : Has w0 (L ++ rowsAt δ x) w := by
  obtain ⟨R, h1⟩ := rows_mem (δ := δ) hm
  unfold Cl at h
  refine Has.sub (h.perm (h1.append_left L)) ?_
  rw [← List.append_assoc]
  exact List.sublist_append_left _ _
/-- A call that reads memory which an operation of the region made: its value lies in slot d. -/
theorem rs_callF (hg : Region.wanted o (yielded l a.tmps) = true) (hs : (match o.op with | .store _ _ _ => false | _ => true) = true) (p : Value → Prop) (hov : over.lookup i = some p) (hp : plainB B i = true) (hex : ∃ v, p v) {f : FuncId} {args : Array Value}
    (m k : Nat) (d : Tmp) {F : Value → List Rw} (hm : B[m]? = some (k, .fam F)) {ok : Oper} (hok : l[k]? = some ok) (hkd : ok.dst = some d) (hke : (o.after.any fun e => Region.binds .any e && e.on == k) = true) (hrd' : Operand.tmp d ∈ o.op.operands.toList)
    (hv : ∀ w, (execOp a.eval o).run P w = .ok (.enter f args) w) (hc : ∀ w, Has w0 (L ++ F (a.eval (.tmp d))) w → Calls P f args w fun e w' => ∃ v, e = .returned v ∧ p v ∧ Below w.heap.size w w')
    (h : ∀ K : Act → Prop, (∀ a, Stay (wpSet P l (Cl w0 L B) (Sd P l w0 L over) Q rest (i + 1) a) → K a) → ∀ v, p v → K (a.put o.dst v)) :
    Stay (wpSet P l (Cl w0 L B) (Sd P l w0 L over) Q (o :: rest) i a) := by
  refine ⟨?_⟩
  have hS : ∀ u, Sd P l w0 L over i (vals a o) u ↔ p u := fun u => by unfold Sd; rw [hov]
  unfold wpSet
  rw [if_pos hg]
  refine ⟨fun δ w hcl hn ha => ?_, ?_, fun u hu => h _ (fun _ h => h.out) u ((hS u).1 hu)⟩
  · rw [hv w]
    obtain ⟨e, he, hb, hon⟩ : ∃ e ∈ o.after, Region.binds .any e = true ∧ e.on = k := by
      obtain ⟨j, hj, hje⟩ := Array.any_eq_true.1 hke
      simp only [Bool.and_eq_true, beq_iff_eq] at hje
      exact ⟨_, Array.getElem_mem hj, hje.1, hje.2⟩
    have hks := hn.deps e he hb
    rw [hon] at hks
    obtain ⟨u, hu⟩ := Option.isSome_iff_exists.1 hks
    have hag := ha k ok d u hok hkd hrd' hu
    have hh := hcl.with hm
    have e1 : rowsAt δ (k, .fam F) = F u := by simp [rowsAt, hu]
    rw [e1, ← hag] at hh
    refine (hc w hh).mono fun e w' ⟨v, he, hpv, hb⟩ => ⟨v, he, (hS v).2 hpv, ?_⟩
    unfold Cl at *
    rw [rowsOf_plain hp]
    exact hcl.kept hb
  · obtain ⟨v, hv⟩ := hex; exact ⟨v, (hS v).2 hv⟩
/-- An operation that makes a new row, and hands back a value that tells its block. -/
theorem rs_new (hg : Region.wanted o (yielded l a.tmps) = true) (hs : (match o.op with | .store _ _ _ => false | _ => true) = true) (V : Nat → Value) (cs : Array Value) (T : TypeId) (F : Value → List Rw) (hF : ∀ g, F (V g) = [(g, cs, T)]) (hov : over.lookup i = some fun v => ∃ g, v = V g) (m : Nat) (hm : B[m]? = some (i, .fam F)) (hp : othersB B m i = true)
    (hv : ∀ w, (execOp a.eval o).run P w = .ok (.value (V w.heap.size)) (w.alloc (Obj.cells cs T)))
    (h : ∀ K : Act → Prop, (∀ a, Stay (wpSet P l (Cl w0 L B) (Sd P l w0 L over) Q rest (i + 1) a) → K a) → ∀ g, K (a.put o.dst (V g))) :
    Stay (wpSet P l (Cl w0 L B) (Sd P l w0 L over) Q (o :: rest) i a) := by
  refine ⟨?_⟩
  have hS : ∀ u, Sd P l w0 L over i (vals a o) u ↔ ∃ g, u = V g := fun u => by unfold Sd; rw [hov]
  unfold wpSet
  rw [if_pos hg]
  refine ⟨fun δ w hcl hn ha => ?_, ⟨_, (hS _).2 ⟨0, rfl⟩⟩, fun u hu => ?_⟩
  · rw [hv w]
    refine ⟨(hS _).2 ⟨_, rfl⟩, ?_⟩
    have hrec : ∀ v, recOf o a v = v := fun v => by
      unfold recOf; split
      · rename_i e; rw [e] at hs; cases hs
      · rfl
    rw [hrec]
    unfold Cl at *
    obtain ⟨R, h1, h2⟩ := rowsOf_upd hm hp δ (V w.heap.size)
    have e1 : rowsAt δ (i, .fam F) = [] := by simp [rowsAt, hn.not]
    have e2 : rowsAt (setRec δ i (V w.heap.size)) (i, .fam F) = [(w.heap.size, cs, T)] := by simp [rowsAt, setRec_self, hF]
    rw [e1, List.nil_append] at h1
    rw [e2] at h2
    refine (Has.cons hcl cs T).perm ?_
    exact (((h1.append_left L).cons _).trans (List.perm_middle (l₁ := L)).symm).trans (by simpa using h2.symm.append_left L)
  · obtain ⟨g, rfl⟩ := (hS u).1 hu
    exact h _ (fun _ h => h.out) g
/-- A row of the memory that the region itself writes, read ahead of that. -/
theorem rs_own_ld (hg : Region.wanted o (yielded l a.tmps) = true) (hs : (match o.op with | .select _ _ => false | .store _ _ _ => false | _ => o.dst.isSome) = true) (c : Value) (hov : over.lookup i = some fun v => v = c) (hp : plainB B i = true)
    (m s : Nat) {g : Nat} {z : Array Value} {T : TypeId} (hm : B[m]? = some (s, .own g z T)) {os : Oper} (hos : l[s]? = some os) (hse : (os.after.any fun e => Region.binds .any e && e.on == i) = true)
    (hv : ∀ w, IsR w g z T → (execOp a.eval o).run P w = .ok (.value c) w)
    (h : ∀ K : Act → Prop, (∀ a, Stay (wpSet P l (Cl w0 L B) (Sd P l w0 L over) Q rest (i + 1) a) → K a) → K (a.put o.dst c)) :
    Stay (wpSet P l (Cl w0 L B) (Sd P l w0 L over) Q (o :: rest) i a) := by
  refine ⟨?_⟩
  have hS : ∀ u, Sd P l w0 L over i (vals a o) u ↔ u = c := fun u => by unfold Sd; rw [hov]
  unfold wpSet
  rw [if_pos hg]
  refine ⟨fun δ w hcl hn ha => ?_, ⟨c, (hS _).2 rfl⟩, fun u hu => by rw [(hS u).1 hu]; exact h _ (fun _ h => h.out)⟩
  obtain ⟨k, hk, hke⟩ := Array.any_eq_true.1 hse
  simp only [Bool.and_eq_true, beq_iff_eq] at hke
  have hds : δ s = none := by
    cases hd : δ s with
    | none => rfl
    | some u =>
      have := hn.shut s os hos (by rw [hd]; rfl) _ (Array.getElem_mem hk) hke.1
      rw [hke.2, hn.not] at this
      cases this
  have hh := hcl.with hm
  have e1 : rowsAt δ (s, .own g z T) = [(g, z, T)] := by simp [rowsAt, hds]
  rw [e1] at hh
  rw [hv w (hh.rows (g, z, T) (by simp))]
  refine ⟨(hS _).2 rfl, ?_⟩
  unfold Cl at *
  rw [rowsOf_plain hp]
  exact hcl
/-- A row of the memory is written, by what the region computed. -/
theorem rs_own_st (hg : Region.wanted o (yielded l a.tmps) = true) (hd : o.dst = none) (hi : l[i]? = some o) (hov : (over.lookup i).isNone = true) (hw : ∃ w, Has w0 L w) {Ts : TypeId} {x y : Operand} (hop : o.op = .store Ts x y) (m : Nat) {g : Nat} {T : TypeId} {z cs : Array Value} (hm : B[m]? = some (i, .own g z T)) (hp : othersB B m i = true)
    (hc : cellsOf (a.eval y) = cs) (hv : ∀ w, IsR w g z T → ∃ w', (execOp a.eval o).run P w = .ok .skip w' ∧ Put g cs T w w')
    (h : ∀ K : Act → Prop, (∀ a, Stay (wpSet P l (Cl w0 L B) (Sd P l w0 L over) Q rest (i + 1) a) → K a) → K (a.put o.dst undef)) :
    Stay (wpSet P l (Cl w0 L B) (Sd P l w0 L over) Q (o :: rest) i a) := by
  refine ⟨?_⟩
  have hov' : over.lookup i = none := by cases h : over.lookup i with | none => rfl | some p => rw [h] at hov; cases hov
  have hS : ∀ w, Has w0 L w → Sd P l w0 L over i (vals a o) undef := fun w hh => by
    unfold Sd; rw [hov']; simp only [hi]
    exact ⟨a, w, rfl, hh, Or.inr ⟨trivial, hd⟩⟩
  have uniq : ∀ u, Sd P l w0 L over i (vals a o) u → a.put o.dst u = a.put o.dst undef := fun u _ => by rw [hd]; rfl
  unfold wpSet
  rw [if_pos hg]
  refine ⟨fun δ w hcl hn ha => ?_, ?_, fun u hu => by rw [uniq u hu]; exact h _ (fun _ h => h.out)⟩
  · have hrec : ∀ v, recOf o a v = a.eval y := fun v => by unfold recOf; rw [hop]
    have hbase := hcl.base
    unfold Cl at *
    obtain ⟨R, h1, h2⟩ := rowsOf_upd hm hp δ (a.eval y)
    have e1 : rowsAt δ (i, .own g z T) = [(g, z, T)] := by simp [rowsAt, hn.not]
    have e2 : rowsAt (setRec δ i (a.eval y)) (i, .own g z T) = [(g, cs, T)] := by simp [rowsAt, setRec_self, hc]
    rw [e1] at h1
    rw [e2] at h2
    have hh : Has w0 ((g, z, T) :: (L ++ R)) w := hcl.perm ((h1.append_left L).trans (List.perm_middle (l₁ := L)))
    obtain ⟨w', hr, hput⟩ := hv w (hh.row 0 rfl)
    rw [hr]
    refine ⟨hS w hbase, ?_⟩
    rw [hrec]
    exact (hh.putHead hput).perm ((List.perm_middle (l₁ := L)).symm.trans (h2.symm.append_left L))
  · obtain ⟨w, hw⟩ := hw
    exact ⟨undef, hS w hw⟩

/-- An operation whose guard says no. -/
theorem rs_not (hg : Region.wanted o (yielded l a.tmps) = false) (hp : plainB B i = true)
    (h : ∀ K : Act → Prop, (∀ a, Stay (wpSet P l (Cl w0 L B) (Sd P l w0 L over) Q rest (i + 1) a) → K a) → K (a.put o.dst undef)) : Stay (wpSet P l (Cl w0 L B) (Sd P l w0 L over) Q (o :: rest) i a) := by
  refine ⟨?_⟩
  unfold wpSet
  rw [if_neg (by simp [hg])]
  refine ⟨fun δ w hcl hn => ?_, h _ (fun _ h => h.out)⟩
  unfold Cl at *
  rw [rowsOf_plain hp]
  exact hcl
theorem rs_nil (h : Q a) : Stay (wpSet P l (Cl w0 L B) (Sd P l w0 L over) Q [] i a) := ⟨h⟩

/-- The rows at the end. -/
def endRow (l : Array Oper) (a : Act) (x : Nat × Sp) : List Rw :=
  match x.2 with
  | .own g z T => (match l[x.1]? with
    | some os => match os.op with
      | .store _ _ y => [(g, cellsOf (a.eval y), T)]
      | _ => [(g, z, T)]
    | none => [(g, z, T)])
  | _ => match l[x.1]? with
  | some ok => match ok.dst with
    | some d => match x.2 with
      | .box T z s => match l[s]? with
        | some os => match os.op with
          | .store _ _ y => boxRow T (cellsOf (a.eval y)) (a.eval (.tmp d))
          | _ => boxRow T z (a.eval (.tmp d))
        | none => boxRow T z (a.eval (.tmp d))
      | .fam f => f (a.eval (.tmp d))
      | .own _ _ _ => []
    | none => []
  | none => []

/-- What is needed of B for it. -/
def endB (l : Array Oper) (B : List (Nat × Sp)) : Bool := B.all fun x => match l[x.1]? with
  | some ok => (match x.2 with | .own _ _ _ => true | _ => ok.dst.isSome) && (match x.2 with
    | .own _ _ _ => (match ok.op with | .store _ _ _ => ok.guard.isNone | _ => false)
    | .box _ _ s => (match l[s]? with
      | some os => (match os.op with | .store _ _ _ => os.guard.isNone | _ => false)
      | none => false)
    | .fam _ => true)
  | none => false

theorem rows_end {δ : Rec} {a : Act} (hB : endB l B = true) (hd : ∀ j, j < l.size → (δ j).isSome = true) (hw : Whole l δ a) : rowsOf B δ = B.flatMap (endRow l a) := by
  unfold rowsOf
  refine flat_congr fun x hx => ?_
  unfold endB at hB
  have hb := (List.all_eq_true.1 hB) x hx
  cases hk : l[x.1]? with
  | none => simp [hk] at hb
  | some ok =>
    simp only [hk, Bool.and_eq_true] at hb
    obtain ⟨u, hu⟩ := Option.isSome_iff_exists.1 (hd x.1 (Array.getElem?_eq_some_iff.1 hk).1)
    unfold endRow rowsAt
    cases hx2 : x.2 with
    | own g z T =>
      have hb2 := hb.2
      simp only [hx2] at hb2
      cases hop : ok.op <;> simp only [hop] at hb2 <;> try cases hb2
      rename_i Ts x' y
      have := hw.kept x.1 ok Ts x' y u hk hop (by simpa using hb2) hu
      simp only [hk, hop, hu, this]
    | fam f =>
      have hb1 := hb.1
      simp only [hx2] at hb1
      obtain ⟨d, hdd⟩ := Option.isSome_iff_exists.1 hb1
      have hsl := hw.slot x.1 ok d u hk hdd hu
      simp only [hk, hdd, hu, hsl]
    | box T z s =>
      have hb1 := hb.1
      simp only [hx2] at hb1
      obtain ⟨d, hdd⟩ := Option.isSome_iff_exists.1 hb1
      have hsl := hw.slot x.1 ok d u hk hdd hu
      have hb2 := hb.2
      simp only [hx2] at hb2
      cases hs : l[s]? with
      | none => simp [hs] at hb2
      | some os =>
        simp only [hs] at hb2
        cases hop : os.op <;> simp only [hop] at hb2 <;> try cases hb2
        rename_i Ts x' y
        obtain ⟨r, hr⟩ := Option.isSome_iff_exists.1 (hd s (Array.getElem?_eq_some_iff.1 hs).1)
        have := hw.kept s os Ts x' y r hs hop (by simpa using hb2) hr
        simp only [hk, hdd, hu, hr, this, hsl, hs, hop]
end

theorem wpSet_mono {P : Program} {ops : Array Oper} {C : Rec → World → Prop} {S : Nat → Array Value → Value → Prop} {Q Q' : Act → Prop} (hq : ∀ a, Q a → Q' a) : ∀ (l : List Oper) (i : Nat) (a : Act), wpSet P ops C S Q l i a → wpSet P ops C S Q' l i a
  | [], _, _, h => hq _ h
  | o :: l, i, a, h => by
    unfold wpSet at *
    split
    · rename_i hw; rw [if_pos hw] at h; exact ⟨h.1, h.2.1, fun v hv => wpSet_mono hq l _ _ (h.2.2 v hv)⟩
    · rename_i hw; rw [if_neg hw] at h; exact ⟨h.1, wpSet_mono hq l _ _ h.2⟩

/-- A region that draws its order, with boxes and calls that make memory: walked once. -/
theorem wp_region_rows {P : Program} {w0 : World} {L : List Rw} {id : Nat} {Q : Exit → Act → World → Prop} {a : Act} {w : World} {l : List Oper} (B : List (Nat × Sp)) (over : List (Nat × (Value → Prop))) (hh : Has w0 (L ++ rowsOf B noRec) w) (hm : P.follows .mixedOrders = true) (hB : Region.lexB .any l.toArray = true)
    (hS : Region.slotsB l.toArray a.tmps.size = true) (hE : endB l.toArray B = true)
    (h : Stay (wpSet P l.toArray (Cl w0 L B) (Sd P l.toArray w0 L over) (fun a' => ∀ w', Has w0 (L ++ B.flatMap (endRow l.toArray a')) w' → Q .normal a' w') l 0 a)) : (Code.region id l.toArray true).wp P Q a w := by
  refine wp_region_set (Cl w0 L B) (Sd P l.toArray w0 L over) hm hB hS ?_ ?_
  · unfold Cl; exact hh.drew
  · refine wpSet_mono (fun a' hq w' δ hc hd hw => hq w' ?_) _ _ _ h.out
    have := rows_end (l := l.toArray) hE (by simpa using hd) hw
    unfold Cl at hc
    rwa [this] at hc
theorem Has.move {w0 w : World} {L : List Rw} (h : Has w0 L w) (j : Nat) {r : Rw} (e : L[j]? = some r) : Has w0 (L.eraseIdx j ++ [r]) w := by
  refine h.perm ?_
  have key : ∀ (L : List Rw) (j : Nat), L[j]? = some r → L.Perm (L.eraseIdx j ++ [r]) := by
    intro L
    induction L with
    | nil => intro j hj; simp at hj
    | cons x L ih =>
      intro j hj
      cases j with
      | zero =>
        simp at hj
        subst hj
        simpa using (List.perm_append_comm (l₁ := [x]) (l₂ := L))
      | succ j => simpa using (ih j (by simpa using hj)).cons x
  exact key L j e
end Go.Proofs.Ytfhlmijdokfdpaa
