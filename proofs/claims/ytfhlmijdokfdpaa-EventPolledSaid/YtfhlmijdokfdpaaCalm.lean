/- A region that draws its order, walked once: each operation yields one value in every world of a class that is told by which operations have come up. -/
import Derived.Deep.Quiet
import Derived.Deep.QuietTactic
import Derived.Laws.Tables
import Derived.Laws.Rows
import Derived.KernelRfl
namespace Go.Proofs.Ytfhlmijdokfdpaa
open Go

/-- Which operations have come up: one more. -/
def upd (d : Nat → Bool) (i : Nat) : Nat → Bool := fun j => j == i || d j

section
variable {P : Program} {ops : Array Oper} {md : Region.Mode} {C : (Nat → Bool) → World → Prop}

def calmUpon (P : Program) (C' : World → Prop) (v : Value) : Result Next → Prop
  | .ok (.value u) w' => u = v ∧ C' w'
  | .ok .skip w' => v = undef ∧ C' w'
  | .ok (.enter f args) w' => Calls P f args w' (fun e w'' => e = .returned v ∧ C' w'')
  | _ => False

def calmAt (P : Program) (o : Oper) (a : Act) (C' : World → Prop) (w : World) (v : Value) : Prop := calmUpon P C' v ((execOp a.eval o).run P w)

/-- It has not come up, and what it waits for has. -/
structure Now (i : Nat) (o : Oper) (d : Nat → Bool) : Prop where
  not : d i = false
  deps : ∀ e ∈ o.after, Region.binds .any e = true → d e.on = true

/-- One value, in every world of the class; and the class with this operation's mark behind it. -/
def calmOp (P : Program) (C : (Nat → Bool) → World → Prop) (i : Nat) (o : Oper) (a : Act) (v : Value) : Prop :=
  ∀ d w, C d w → Now i o d → calmAt P o a (C (upd d i)) w v

/-- The walk in the order of the text, from operation i on. -/
def wpCalm (P : Program) (ops : Array Oper) (C : (Nat → Bool) → World → Prop) (Q : Act → Prop) : List Oper → Nat → Act → Prop
  | [], _, a => Q a
  | o :: rest, i, a =>
    if Region.wanted o (yielded ops a.tmps) then ∃ v, calmOp P C i o a v ∧ wpCalm P ops C Q rest (i + 1) (a.put o.dst v)
    else (∀ d w, C d w → Now i o d → C (upd d i) w) ∧ wpCalm P ops C Q rest (i + 1) (a.put o.dst undef)

/-- Operation o, number i, leaves v in state a. -/
def Leaves (P : Program) (ops : Array Oper) (C : (Nat → Bool) → World → Prop) (i : Nat) (o : Oper) (v : Value) (a : Act) : Prop :=
  (Region.wanted o (yielded ops a.tmps) = true ∧ calmOp P C i o a v) ∨
  (Region.wanted o (yielded ops a.tmps) = false ∧ v = undef ∧ ∀ d w, C d w → Now i o d → C (upd d i) w)

theorem Leaves.of_same {i : Nat} {o : Oper} {v : Value} {a a' : Act} (hy : Leaves P ops C i o v a) (he : execOp a'.eval o = execOp a.eval o)
    (hw : Region.wanted o (yielded ops a'.tmps) = Region.wanted o (yielded ops a.tmps)) : Leaves P ops C i o v a' := by
  unfold Leaves calmOp calmAt at *
  rw [he, hw]
  exact hy

/-- Whatever order is picked from here on: each operation that may come up leaves its value. -/
def wpAnyC (P : Program) (md : Region.Mode) (ops : Array Oper) (C : (Nat → Bool) → World → Prop) (Q : Act → Prop) : Nat → Array Bool → Act → Prop
  | 0, listed, a => Region.ready md ops listed = [] ∧ Q a ∧ ∀ j, j < ops.size → listed.getD j false = true
  | fuel + 1, listed, a =>
    (Region.ready md ops listed = [] → Q a ∧ ∀ j, j < ops.size → listed.getD j false = true) ∧
    ∀ i ∈ Region.ready md ops listed, ∃ o v, ops[i]? = some o ∧ Leaves P ops C i o v a ∧ wpAnyC P md ops C Q fuel (listed.setIfInBounds i true) (a.put o.dst v)

def flags (listed : Array Bool) : Nat → Bool := fun j => listed.getD j false

theorem flags_set {listed : Array Bool} {i : Nat} (hi : i < listed.size) : flags (listed.setIfInBounds i true) = upd (flags listed) i := by
  funext j
  unfold flags upd
  by_cases h : j = i
  · subst h; simp [hi]
  · rw [getD_set_ne false (fun e => h e.symm)]; simp [h]

theorem getD_both' {listed : Array Bool} {i : Nat} (h : listed.getD i true = false) : listed.getD i false = false := by
  rcases Nat.lt_or_ge i listed.size with h' | h'
  · simp [h'] at h ⊢; exact h
  · simp [Array.getElem?_eq_none h'] at h
theorem ready_lt {i : Nat} {listed : Array Bool} (h : i ∈ Region.ready md ops listed) : i < listed.size := by
  have h1 := (mem_ready.1 h).1
  rcases Nat.lt_or_ge i listed.size with h' | h'
  · exact h'
  · simp [Array.getElem?_eq_none h'] at h1

theorem wp_of_calm {o : Oper} {a : Act} {w : World} {C' : World → Prop} {v : Value} {K : Act → World → Prop} {Q : Exit → Act → World → Prop} (h : calmAt P o a C' w v)
    (hK : ∀ w', C' w' → K (a.put o.dst v) w') : o.wp P a w K Q := by
  unfold calmAt at h
  unfold Oper.wp
  generalize (execOp a.eval o).run P w = r at *
  cases r with
  | ok n w' =>
    cases n <;> simp only [calmUpon] at h <;> simp only [Oper.upon]
    case value u => rw [h.1]; exact hK _ h.2
    case skip => obtain ⟨rfl, h2⟩ := h; exact hK _ h2
    case enter f args => exact h.mono fun e w'' ⟨he, hw''⟩ => by subst he; exact hK _ hw''
  | halt x w' => simp only [calmUpon] at h

theorem wpAny_of_calm {Q : Act → Prop} {Q' : Exit → Act → World → Prop} (hQ : ∀ a d w, C d w → (∀ j, j < ops.size → d j = true) → Q a → Q' .normal a w) : ∀ (fuel : Nat) (listed : Array Bool) (a : Act) (w : World), C (flags listed) w →
    wpAnyC P .any ops C Q fuel listed a → wpAny P .any ops Q' fuel listed a w
  | 0, _, _, _, hw, h => ⟨h.1, hQ _ _ _ hw h.2.2 h.2.1⟩
  | fuel + 1, listed, a, w, hw, h => ⟨fun h0 => hQ _ _ _ hw (h.1 h0).2 (h.1 h0).1, fun i hi => by
      obtain ⟨o, v, ho, hy, hr⟩ := h.2 i hi
      have hf := flags_set (listed := listed) (ready_lt hi)
      have hn : Now i o (flags listed) := by
        obtain ⟨h1, o', ho', hall⟩ := mem_ready.1 hi
        obtain rfl : o = o' := Option.some.inj (ho.symm.trans ho')
        exact ⟨getD_both' h1, hall⟩
      unfold wpOp
      simp only [ho]
      rcases hy with ⟨hwant, hv⟩ | ⟨hwant, rfl, hc⟩
      · rw [if_pos hwant]
        exact .inl (wp_of_calm (hv _ _ hw hn) fun w' hw' => wpAny_of_calm hQ fuel _ _ w' (by rw [hf]; exact hw') hr)
      · rw [if_neg (by simp [hwant])]
        exact wpAny_of_calm hQ fuel _ _ w (by rw [hf]; exact hc _ _ hw hn) hr⟩

theorem wpAnyC_first {Q : Act → Prop} {i : Nat} {oi : Oper} {v : Value} (hi : ops[i]? = some oi) (hsel : ∀ (j : Nat) (o : Oper) cs b, ops[j]? = some o → o.op ≠ .select cs b) :
    ∀ (fuel : Nat) (listed : Array Bool) (a : Act),
      (∀ j oj, ops[j]? = some oj → j ≠ i → listed.getD j true = false → (∀ e ∈ oj.after, Region.binds md e = true → e.on ≠ i) → oi.apart ops oj = true) →
      i ∈ Region.ready md ops listed → Leaves P ops C i oi v a →
      wpAnyC P md ops C Q fuel (listed.setIfInBounds i true) (a.put oi.dst v) → wpAnyC P md ops C Q (fuel + 1) listed a := by
  intro fuel
  induction fuel with
  | zero =>
    intro listed a _ hr hy H
    refine ⟨fun h => (by rw [h] at hr; cases hr), fun j hj => ?_⟩
    by_cases hji : j = i
    · subst hji; exact ⟨oi, v, hi, hy, H⟩
    · have := ready_mono hj hji
      rw [H.1] at this
      cases this
  | succ fuel ih =>
    intro listed a hfree hr hy H
    refine ⟨fun h => (by rw [h] at hr; cases hr), fun j hj => ?_⟩
    by_cases hji : j = i
    · subst hji; exact ⟨oi, v, hi, hy, H⟩
    · obtain ⟨oj, u, hoj, hyj, hrest⟩ := H.2 j (ready_mono hj hji)
      obtain ⟨hjun, oj', hoj', hall⟩ := mem_ready.1 hj
      obtain rfl : oj = oj' := Option.some.inj (hoj.symm.trans hoj')
      have hnot : ∀ e ∈ oj.after, Region.binds md e = true → e.on ≠ i := fun e he hb heq => by
        have h1 := hall e he hb
        have h0 := (mem_ready.1 hr).1
        rw [heq] at h1
        rcases Nat.lt_or_ge i listed.size with h' | h'
        · simp [h'] at h0 h1; rw [h0] at h1; cases h1
        · simp [Array.getElem?_eq_none h'] at h1
      have hap := hfree j oj hoj hji hjun hnot
      obtain ⟨h1, h2, h3⟩ := Oper.apart_spec hap
      have hyj' : Leaves P ops C j oj u a := hyj.of_same (execOp_put oj (fun cs b => hsel j oj cs b hoj) a oi.dst v h1).symm (wanted_put oj a oi.dst v h1).symm
      have hyi' : Leaves P ops C i oi v (a.put oj.dst u) := hy.of_same (execOp_put oi (fun cs b => hsel i oi cs b hi) a oj.dst u h3) (wanted_put oi a oj.dst u h3)
      have hfree' : ∀ k ok, ops[k]? = some ok → k ≠ i → (listed.setIfInBounds j true).getD k true = false →
          (∀ e ∈ ok.after, Region.binds md e = true → e.on ≠ i) → oi.apart ops ok = true := fun k ok hk hki hun hno => by
        refine hfree k ok hk hki ?_ hno
        by_cases hjk : j = k
        · subst hjk; exact hjun
        · rw [getD_set_ne true hjk] at hun; exact hun
      refine ⟨oj, u, hoj, hyj', ih _ _ hfree' (ready_mono hr (Ne.symm hji)) hyi' ?_⟩
      rw [Array.setIfInBounds_comm _ _ hji, ← Act.put_comm a v u h2]
      exact hrest

theorem wpAnyC_lex {Q : Act → Prop} (hs : Region.noSelect ops = true) : ∀ (l : List Oper) (k : Nat) (listed : Array Bool) (a : Act), (∀ j, l[j]? = ops[k + j]?) → listed.size = ops.size → (∀ j, j < k → listed.getD j false = true) →
    Region.lexFrom md ops l.length k listed = true → wpCalm P ops C Q l k a → wpAnyC P md ops C Q l.length listed a
  | [], k, listed, _, hl, _, hd, hB, h => ⟨by simpa [Region.lexFrom] using hB, h, fun j hj => hd j (by
      rcases Nat.lt_or_ge j k with h' | h'
      · exact h'
      · have := hl (j - k); rw [show k + (j - k) = j by omega] at this; simp [hj] at this)⟩
  | o :: l, k, listed, a, hl, hsz, hd, hB, h => by
    have h0 : ops[k]? = some o := by simpa using (hl 0).symm
    simp only [List.length_cons, Region.lexFrom, Bool.and_eq_true] at hB
    obtain ⟨⟨hr, hf⟩, hB'⟩ := hB
    have hl' : ∀ j, l[j]? = ops[(k + 1) + j]? := fun j => by have := hl (j + 1); simpa [Nat.add_assoc, Nat.add_comm 1 j] using this
    have hy : ∃ v, Leaves P ops C k o v a ∧ wpCalm P ops C Q l (k + 1) (a.put o.dst v) := by
      unfold wpCalm at h
      split at h
      · rename_i hw; obtain ⟨v, h1, h2⟩ := h; exact ⟨v, .inl ⟨hw, h1⟩, h2⟩
      · rename_i hw; exact ⟨undef, .inr ⟨by simpa using hw, rfl, h.1⟩, h.2⟩
    obtain ⟨v, hy, hK⟩ := hy
    exact wpAnyC_first h0 (Region.noSelect_spec hs) l.length listed a (Region.free_spec h0 hf) (by simpa using hr) hy
      (wpAnyC_lex hs l (k + 1) _ _ hl' (by simpa using hsz) (fun j hj => by
        have hk : k < listed.size := by rw [hsz]; exact (Array.getElem?_eq_some_iff.1 h0).1
        have := congrFun (flags_set (listed := listed) (i := k) hk) j
        unfold flags upd at this
        rw [this]
        by_cases hjk : j = k
        · simp [hjk]
        · simp [hd j (by omega)]) hB' hK)

/-- Nothing has come up yet. -/
def noFlag : Nat → Bool := fun _ => false

/-- A region that draws its order, walked once in the order of the text; C tells what holds of the world by which operations have come up. -/
theorem wp_region_calm {id : Nat} {Q : Exit → Act → World → Prop} {a : Act} {w : World} {l : List Oper} (C : (Nat → Bool) → World → Prop) (hm : P.follows .mixedOrders = true) (hB : Region.lexB .any l.toArray = true)
    (hC : C noFlag w.drew) (h : wpCalm P l.toArray C (fun a' => ∀ w' d, C d w' → (∀ j, j < l.length → d j = true) → Q .normal a' w') l 0 a) : (Code.region id l.toArray true).wp P Q a w := by
  simp only [Region.lexB, Bool.and_eq_true] at hB
  refine wp_region_any hm (wpAny_of_calm (C := C) (Q := fun a' => ∀ w' d, C d w' → (∀ j, j < l.length → d j = true) → Q .normal a' w') (fun _ d w' hw' hd h => h w' d hw' (by simpa using hd)) _ _ _ _ ?_ ?_)
  · have e : flags (Array.replicate l.toArray.size false) = noFlag := by funext j; unfold flags noFlag; simp only [Array.getD_eq_getD_getElem?, Array.getElem?_replicate]; split <;> rfl
    rw [e]; exact hC
  · have := wpAnyC_lex (C := C) (md := .any) hB.1 l 0 (Array.replicate l.toArray.size false) a (by simp) (by simp) (by simp) (by simpa using hB.2) h
    simpa using this

/-- An operation that leaves the world alone. -/
theorem calm_read {Q : Act → Prop} {o : Oper} {rest : List Oper} {i : Nat} {a : Act} (hg : o.guard = none) (v : Value) (hv : ∀ d w, C d w → Now i o d → (execOp a.eval o).run P w = .ok (.value v) w)
    (hmono : ∀ d w, C d w → Now i o d → C (upd d i) w) (h : wpCalm P ops C Q rest (i + 1) (a.put o.dst v)) : wpCalm P ops C Q (o :: rest) i a := by
  unfold wpCalm
  rw [if_pos (by simp [Region.wanted, hg])]
  refine ⟨v, fun d w hw hn => ?_, h⟩
  unfold calmAt
  rw [hv d w hw hn]
  exact ⟨rfl, hmono d w hw hn⟩

/-- An operation that hands back a value and turns the world. -/
theorem calm_turn {Q : Act → Prop} {o : Oper} {rest : List Oper} {i : Nat} {a : Act} (hg : o.guard = none) (v : Value) (hv : ∀ d w, C d w → Now i o d → ∃ w', (execOp a.eval o).run P w = .ok (.value v) w' ∧ C (upd d i) w')
    (h : wpCalm P ops C Q rest (i + 1) (a.put o.dst v)) : wpCalm P ops C Q (o :: rest) i a := by
  unfold wpCalm
  rw [if_pos (by simp [Region.wanted, hg])]
  refine ⟨v, fun d w hw hn => ?_, h⟩
  unfold calmAt
  obtain ⟨w', h1, h2⟩ := hv d w hw hn
  rw [h1]
  exact ⟨rfl, h2⟩

/-- The same, where nothing is handed back. -/
theorem calm_skip {Q : Act → Prop} {o : Oper} {rest : List Oper} {i : Nat} {a : Act} (hg : o.guard = none) (hv : ∀ d w, C d w → Now i o d → ∃ w', (execOp a.eval o).run P w = .ok .skip w' ∧ C (upd d i) w')
    (h : wpCalm P ops C Q rest (i + 1) (a.put o.dst undef)) : wpCalm P ops C Q (o :: rest) i a := by
  unfold wpCalm
  rw [if_pos (by simp [Region.wanted, hg])]
  refine ⟨undef, fun d w hw hn => ?_, h⟩
  unfold calmAt
  obtain ⟨w', h1, h2⟩ := hv d w hw hn
  rw [h1]
  exact ⟨rfl, h2⟩

/-- A call. -/
theorem calm_call {Q : Act → Prop} {o : Oper} {rest : List Oper} {i : Nat} {a : Act} (hg : o.guard = none) (v : Value) (f : FuncId) (args : Array Value) (hv : ∀ w, (execOp a.eval o).run P w = .ok (.enter f args) w)
    (hc : ∀ d w, C d w → Now i o d → Calls P f args w fun e w' => e = .returned v ∧ C (upd d i) w')
    (h : wpCalm P ops C Q rest (i + 1) (a.put o.dst v)) : wpCalm P ops C Q (o :: rest) i a := by
  unfold wpCalm
  rw [if_pos (by simp [Region.wanted, hg])]
  refine ⟨v, fun d w hw hn => ?_, h⟩
  unfold calmAt
  rw [hv w]
  exact hc d w hw hn

/-- An operation whose guard says no. -/
theorem calm_not {Q : Act → Prop} {o : Oper} {rest : List Oper} {i : Nat} {a : Act} (hw : Region.wanted o (yielded ops a.tmps) = false) (hmono : ∀ d w, C d w → Now i o d → C (upd d i) w)
    (h : wpCalm P ops C Q rest (i + 1) (a.put o.dst undef)) : wpCalm P ops C Q (o :: rest) i a := by
  unfold wpCalm
  rw [if_neg (by simp [hw])]
  exact ⟨hmono, h⟩
/-- The same two, where there is a guard. -/
theorem calm_readG {Q : Act → Prop} {o : Oper} {rest : List Oper} {i : Nat} {a : Act} (hg : Region.wanted o (yielded ops a.tmps) = true) (v : Value) (hv : ∀ d w, C d w → Now i o d → (execOp a.eval o).run P w = .ok (.value v) w)
    (hmono : ∀ d w, C d w → Now i o d → C (upd d i) w) (h : wpCalm P ops C Q rest (i + 1) (a.put o.dst v)) : wpCalm P ops C Q (o :: rest) i a := by
  unfold wpCalm
  rw [if_pos hg]
  refine ⟨v, fun d w hw hn => ?_, h⟩
  unfold calmAt
  rw [hv d w hw hn]
  exact ⟨rfl, hmono d w hw hn⟩
theorem calm_callG {Q : Act → Prop} {o : Oper} {rest : List Oper} {i : Nat} {a : Act} (hg : Region.wanted o (yielded ops a.tmps) = true) (v : Value) (f : FuncId) (args : Array Value) (hv : ∀ w, (execOp a.eval o).run P w = .ok (.enter f args) w)
    (hc : ∀ d w, C d w → Now i o d → Calls P f args w fun e w' => e = .returned v ∧ C (upd d i) w')
    (h : wpCalm P ops C Q rest (i + 1) (a.put o.dst v)) : wpCalm P ops C Q (o :: rest) i a := by
  unfold wpCalm
  rw [if_pos hg]
  refine ⟨v, fun d w hw hn => ?_, h⟩
  unfold calmAt
  rw [hv w]
  exact hc d w hw hn
/-- The same, the value found by the walk; what follows behind a variable. -/
theorem calm_ex {Q : Act → Prop} {o : Oper} {rest : List Oper} {i : Nat} {a : Act} (hg : Region.wanted o (yielded ops a.tmps) = true) (hmono : ∀ d w, C d w → Now i o d → C (upd d i) w)
    (h : ∀ K : Act → Prop, (∀ a, wpCalm P ops C Q rest (i + 1) a → K a) → ∃ v, (∀ d w, C d w → Now i o d → (execOp a.eval o).run P w = .ok (.value v) w) ∧ K (a.put o.dst v)) : wpCalm P ops C Q (o :: rest) i a :=
  let ⟨v, h1, h2⟩ := h _ (fun _ h => h)
  calm_readG hg v h1 hmono h2
theorem calm_call' {Q : Act → Prop} {o : Oper} {rest : List Oper} {i : Nat} {a : Act} (hg : Region.wanted o (yielded ops a.tmps) = true) (v : Value) (f : FuncId) (args : Array Value) (hv : ∀ w, (execOp a.eval o).run P w = .ok (.enter f args) w)
    (hc : ∀ d w, C d w → Now i o d → Calls P f args w fun e w' => e = .returned v ∧ C (upd d i) w')
    (h : ∀ K : Act → Prop, (∀ a, wpCalm P ops C Q rest (i + 1) a → K a) → K (a.put o.dst v)) : wpCalm P ops C Q (o :: rest) i a :=
  calm_callG hg v f args hv hc (h _ (fun _ h => h))
theorem calm_not' {Q : Act → Prop} {o : Oper} {rest : List Oper} {i : Nat} {a : Act} (hw : Region.wanted o (yielded ops a.tmps) = false) (hmono : ∀ d w, C d w → Now i o d → C (upd d i) w)
    (h : ∀ K : Act → Prop, (∀ a, wpCalm P ops C Q rest (i + 1) a → K a) → K (a.put o.dst undef)) : wpCalm P ops C Q (o :: rest) i a :=
  calm_not hw hmono (h _ (fun _ h => h))
theorem calm_nil {Q : Act → Prop} {i : Nat} {a : Act} (h : Q a) : wpCalm P ops C Q [] i a := h
end
end Go.Proofs.Ytfhlmijdokfdpaa
