/- Texts of this proof, one behind the other. -/
import Derived.Deep.Quiet
import Derived.Deep.QuietTactic
import Derived.Laws.Tables
import Derived.Laws.Rows
import Derived.KernelRfl
import Derived.WalkKit
import Derived.Lib.Hide
import Derived.WalkSmall
import Derived.Laws.CopyOwn
import Derived.Laws.AppendOwn
import Derived.TacticsIn
import Derived.RangeFuncLeaves
import Derived.Deep.MidRow
import Derived.Deep.AppendSrc
import Derived.OrdersIn
import Derived.LaidEqlPtr
import Derived.RangeFuncRecord
/-! A region that draws its order, walked once: each operation yields one value in every world of a class that is told by which operations have come up. -/
namespace Go.Proofs.Ytoljahfofkmdaaa
open Go

/-- Which operations have come up: one more. -/
def upd (d : Nat → Bool) (i : Nat) : Nat → Bool := fun j => j == i || d j

section
variable {P : Program} {ops : Array Oper} {md : Region.Mode} {C : (Nat → Bool) → World → Prop}

def calmUpon (P : Program) (C' : World → Prop) (v : Value) : Result Next → Prop
  | .ok (.value u) w' => u = v ∧ C' w'
  | .ok .skip w' => v = undef ∧ C' w'
  | .ok (.enter f args) w' => Calls P f args w' (fun e w'' => e = .returned v ∧ C' w'')
  | _ => False

def calmAt (P : Program) (o : Oper) (a : Act) (C' : World → Prop) (w : World) (v : Value) : Prop := calmUpon P C' v ((execOp a.eval o).run P w)

/-- It has not come up, and what it waits for has. -/
structure Now (i : Nat) (o : Oper) (d : Nat → Bool) : Prop where
  not : d i = false
  deps : ∀ e ∈ o.after, Region.binds .any e = true → d e.on = true

/-- One value, in every world of the class; and the class with this operation's mark behind it. -/
def calmOp (P : Program) (C : (Nat → Bool) → World → Prop) (i : Nat) (o : Oper) (a : Act) (v : Value) : Prop :=
  ∀ d w, C d w → Now i o d → calmAt P o a (C (upd d i)) w v

/-- The walk in the order of the text, from operation i on. -/
def wpCalm (P : Program) (ops : Array Oper) (C : (Nat → Bool) → World → Prop) (Q : Act → Prop) : List Oper → Nat → Act → Prop
  | [], _, a => Q a
  | o :: rest, i, a =>
    if Region.wanted o (yielded ops a.tmps) then ∃ v, calmOp P C i o a v ∧ wpCalm P ops C Q rest (i + 1) (a.put o.dst v)
    else (∀ d w, C d w → Now i o d → C (upd d i) w) ∧ wpCalm P ops C Q rest (i + 1) (a.put o.dst undef)

/-- Operation o, number i, leaves v in state a. -/
def Leaves (P : Program) (ops : Array Oper) (C : (Nat → Bool) → World → Prop) (i : Nat) (o : Oper) (v : Value) (a : Act) : Prop :=
  (Region.wanted o (yielded ops a.tmps) = true ∧ calmOp P C i o a v) ∨
  (Region.wanted o (yielded ops a.tmps) = false ∧ v = undef ∧ ∀ d w, C d w → Now i o d → C (upd d i) w)

theorem Leaves.of_same {i : Nat} {o : Oper} {v : Value} {a a' : Act} (hy : Leaves P ops C i o v a) (he : execOp a'.eval o = execOp a.eval o)
    (hw : Region.wanted o (yielded ops a'.tmps) = Region.wanted o (yielded ops a.tmps)) : Leaves P ops C i o v a' := by
  unfold Leaves calmOp calmAt at *
  rw [he, hw]
  exact hy

/-- Whatever order is picked from here on: each operation that may come up leaves its value. -/
def wpAnyC (P : Program) (md : Region.Mode) (ops : Array Oper) (C : (Nat → Bool) → World → Prop) (Q : Act → Prop) : Nat → Array Bool → Act → Prop
  | 0, listed, a => Region.ready md ops listed = [] ∧ Q a ∧ ∀ j, j < ops.size → listed.getD j false = true
  | fuel + 1, listed, a =>
    (Region.ready md ops listed = [] → Q a ∧ ∀ j, j < ops.size → listed.getD j false = true) ∧
    ∀ i ∈ Region.ready md ops listed, ∃ o v, ops[i]? = some o ∧ Leaves P ops C i o v a ∧ wpAnyC P md ops C Q fuel (listed.setIfInBounds i true) (a.put o.dst v)

def flags (listed : Array Bool) : Nat → Bool := fun j => listed.getD j false

theorem flags_set {listed : Array Bool} {i : Nat} (hi : i < listed.size) : flags (listed.setIfInBounds i true) = upd (flags listed) i := by
  funext j
  unfold flags upd
  by_cases h : j = i
  · subst h; simp [hi]
  · rw [getD_set_ne false (fun e => h e.symm)]; simp [h]

theorem getD_both' {listed : Array Bool} {i : Nat} (h : listed.getD i true = false) : listed.getD i false = false := by
  rcases Nat.lt_or_ge i listed.size with h' | h'
  · simp [h'] at h ⊢; exact h
  · simp [Array.getElem?_eq_none h'] at h
theorem ready_lt {i : Nat} {listed : Array Bool} (h : i ∈ Region.ready md ops listed) : i < listed.size := by
  have h1 := (mem_ready.1 h).1
  rcases Nat.lt_or_ge i listed.size with h' | h'
  · exact h'
  · simp [Array.getElem?_eq_none h'] at h1

theorem wp_of_calm {o : Oper} {a : Act} {w : World} {C' : World → Prop} {v : Value} {K : Act → World → Prop} {Q : Exit → Act → World → Prop} (h : calmAt P o a C' w v)
    (hK : ∀ w', C' w' → K (a.put o.dst v) w') : o.wp P a w K Q := by
  unfold calmAt at h
  unfold Oper.wp
  generalize (execOp a.eval o).run P w = r at *
  cases r with
  | ok n w' =>
    cases n <;> simp only [calmUpon] at h <;> simp only [Oper.upon]
    case value u => rw [h.1]; exact hK _ h.2
    case skip => obtain ⟨rfl, h2⟩ := h; exact hK _ h2
    case enter f args => exact h.mono fun e w'' ⟨he, hw''⟩ => by subst he; exact hK _ hw''
  | halt x w' => simp only [calmUpon] at h

theorem wpAny_of_calm {Q : Act → Prop} {Q' : Exit → Act → World → Prop} (hQ : ∀ a d w, C d w → (∀ j, j < ops.size → d j = true) → Q a → Q' .normal a w) : ∀ (fuel : Nat) (listed : Array Bool) (a : Act) (w : World), C (flags listed) w →
    wpAnyC P .any ops C Q fuel listed a → wpAny P .any ops Q' fuel listed a w
  | 0, _, _, _, hw, h => ⟨h.1, hQ _ _ _ hw h.2.2 h.2.1⟩
  | fuel + 1, listed, a, w, hw, h => ⟨fun h0 => hQ _ _ _ hw (h.1 h0).2 (h.1 h0).1, fun i hi => by
      obtain ⟨o, v, ho, hy, hr⟩ := h.2 i hi
      have hf := flags_set (listed := listed) (ready_lt hi)
      have hn : Now i o (flags listed) := by
        obtain ⟨h1, o', ho', hall⟩ := mem_ready.1 hi
        obtain rfl : o = o' := Option.some.inj (ho.symm.trans ho')
        exact ⟨getD_both' h1, hall⟩
      unfold wpOp
      simp only [ho]
      rcases hy with ⟨hwant, hv⟩ | ⟨hwant, rfl, hc⟩
      · rw [if_pos hwant]
        exact .inl (wp_of_calm (hv _ _ hw hn) fun w' hw' => wpAny_of_calm hQ fuel _ _ w' (by rw [hf]; exact hw') hr)
      · rw [if_neg (by simp [hwant])]
        exact wpAny_of_calm hQ fuel _ _ w (by rw [hf]; exact hc _ _ hw hn) hr⟩

theorem wpAnyC_first {Q : Act → Prop} {i : Nat} {oi : Oper} {v : Value} (hi : ops[i]? = some oi) (hsel : ∀ (j : Nat) (o : Oper) cs b, ops[j]? = some o → o.op ≠ .select cs b) :
    ∀ (fuel : Nat) (listed : Array Bool) (a : Act),
      (∀ j oj, ops[j]? = some oj → j ≠ i → listed.getD j true = false → (∀ e ∈ oj.after, Region.binds md e = true → e.on ≠ i) → oi.apart ops oj = true) →
      i ∈ Region.ready md ops listed → Leaves P ops C i oi v a →
      wpAnyC P md ops C Q fuel (listed.setIfInBounds i true) (a.put oi.dst v) → wpAnyC P md ops C Q (fuel + 1) listed a := by
  intro fuel
  induction fuel with
  | zero =>
    intro listed a _ hr hy H
    refine ⟨fun h => (by rw [h] at hr; cases hr), fun j hj => ?_⟩
    by_cases hji : j = i
    · subst hji; exact ⟨oi, v, hi, hy, H⟩
    · have := ready_mono hj hji
      rw [H.1] at this
      cases this
  | succ fuel ih =>
    intro listed a hfree hr hy H
    refine ⟨fun h => (by rw [h] at hr; cases hr), fun j hj => ?_⟩
    by_cases hji : j = i
    · subst hji; exact ⟨oi, v, hi, hy, H⟩
    · obtain ⟨oj, u, hoj, hyj, hrest⟩ := H.2 j (ready_mono hj hji)
      obtain ⟨hjun, oj', hoj', hall⟩ := mem_ready.1 hj
      obtain rfl : oj = oj' := Option.some.inj (hoj.symm.trans hoj')
      have hnot : ∀ e ∈ oj.after, Region.binds md e = true → e.on ≠ i := fun e he hb heq => by
        have h1 := hall e he hb
        have h0 := (mem_ready.1 hr).1
        rw [heq] at h1
        rcases Nat.lt_or_ge i listed.size with h' | h'
        · simp [h'] at h0 h1; rw [h0] at h1; cases h1
        · simp [Array.getElem?_eq_none h'] at h1
      have hap := hfree j oj hoj hji hjun hnot
      obtain ⟨h1, h2, h3⟩ := Oper.apart_spec hap
      have hyj' : Leaves P ops C j oj u a := hyj.of_same (execOp_put oj (fun cs b => hsel j oj cs b hoj) a oi.dst v h1).symm (wanted_put oj a oi.dst v h1).symm
      have hyi' : Leaves P ops C i oi v (a.put oj.dst u) := hy.of_same (execOp_put oi (fun cs b => hsel i oi cs b hi) a oj.dst u h3) (wanted_put oi a oj.dst u h3)
      have hfree' : ∀ k ok, ops[k]? = some ok → k ≠ i → (listed.setIfInBounds j true).getD k true = false →
          (∀ e ∈ ok.after, Region.binds md e = true → e.on ≠ i) → oi.apart ops ok = true := fun k ok hk hki hun hno => by
        refine hfree k ok hk hki ?_ hno
        by_cases hjk : j = k
        · subst hjk; exact hjun
        · rw [getD_set_ne true hjk] at hun; exact hun
      refine ⟨oj, u, hoj, hyj', ih _ _ hfree' (ready_mono hr (Ne.symm hji)) hyi' ?_⟩
      rw [Array.setIfInBounds_comm _ _ hji, ← Act.put_comm a v u h2]
      exact hrest

theorem wpAnyC_lex {Q : Act → Prop} (hs : Region.noSelect ops = true) : ∀ (l : List Oper) (k : Nat) (listed : Array Bool) (a : Act), (∀ j, l[j]? = ops[k + j]?) → listed.size = ops.size → (∀ j, j < k → listed.getD j false = true) →
    Region.lexFrom md ops l.length k listed = true → wpCalm P ops C Q l k a → wpAnyC P md ops C Q l.length listed a
  | [], k, listed, _, hl, _, hd, hB, h => ⟨by simpa [Region.lexFrom] using hB, h, fun j hj => hd j (by
      rcases Nat.lt_or_ge j k with h' | h'
      · exact h'
      · have := hl (j - k); rw [show k + (j - k) = j by omega] at this; simp [hj] at this)⟩
  | o :: l, k, listed, a, hl, hsz, hd, hB, h => by
    have h0 : ops[k]? = some o := by simpa using (hl 0).symm
    simp only [List.length_cons, Region.lexFrom, Bool.and_eq_true] at hB
    obtain ⟨⟨hr, hf⟩, hB'⟩ := hB
    have hl' : ∀ j, l[j]? = ops[(k + 1) + j]? := fun j => by have := hl (j + 1); simpa [Nat.add_assoc, Nat.add_comm 1 j] using this
    have hy : ∃ v, Leaves P ops C k o v a ∧ wpCalm P ops C Q l (k + 1) (a.put o.dst v) := by
      unfold wpCalm at h
      split at h
      · rename_i hw; obtain ⟨v, h1, h2⟩ := h; exact ⟨v, .inl ⟨hw, h1⟩, h2⟩
      · rename_i hw; exact ⟨undef, .inr ⟨by simpa using hw, rfl, h.1⟩, h.2⟩
    obtain ⟨v, hy, hK⟩ := hy
    exact wpAnyC_first h0 (Region.noSelect_spec hs) l.length listed a (Region.free_spec h0 hf) (by simpa using hr) hy
      (wpAnyC_lex hs l (k + 1) _ _ hl' (by simpa using hsz) (fun j hj => by
        have hk : k < listed.size := by rw [hsz]; exact (Array.getElem?_eq_some_iff.1 h0).1
        have := congrFun (flags_set (listed := listed) (i := k) hk) j
        unfold flags upd at this
        rw [this]
        by_cases hjk : j = k
        · simp [hjk]
        · simp [hd j (by omega)]) hB' hK)

/-- Nothing has come up yet. -/
def noFlag : Nat → Bool := fun _ => false

/-- A region that draws its order, walked once in the order of the text; C tells what holds of the world by which operations have come up. -/
theorem wp_region_calm {id : Nat} {Q : Exit → Act → World → Prop} {a : Act} {w : World} {l : List Oper} (C : (Nat → Bool) → World → Prop) (hm : P.follows .mixedOrders = true) (hB : Region.lexB .any l.toArray = true)
    (hC : C noFlag w.drew) (h : wpCalm P l.toArray C (fun a' => ∀ w' d, C d w' → (∀ j, j < l.length → d j = true) → Q .normal a' w') l 0 a) : (Code.region id l.toArray true).wp P Q a w := by
  simp only [Region.lexB, Bool.and_eq_true] at hB
  refine wp_region_any hm (wpAny_of_calm (C := C) (Q := fun a' => ∀ w' d, C d w' → (∀ j, j < l.length → d j = true) → Q .normal a' w') (fun _ d w' hw' hd h => h w' d hw' (by simpa using hd)) _ _ _ _ ?_ ?_)
  · have e : flags (Array.replicate l.toArray.size false) = noFlag := by funext j; unfold flags noFlag; simp only [Array.getD_eq_getD_getElem?, Array.getElem?_replicate]; split <;> rfl
    rw [e]; exact hC
  · have := wpAnyC_lex (C := C) (md := .any) hB.1 l 0 (Array.replicate l.toArray.size false) a (by simp) (by simp) (by simp) (by simpa using hB.2) h
    simpa using this

theorem calm_callG {Q : Act → Prop} {o : Oper} {rest : List Oper} {i : Nat} {a : Act} (hg : Region.wanted o (yielded ops a.tmps) = true) (v : Value) (f : FuncId) (args : Array Value) (hv : ∀ w, (execOp a.eval o).run P w = .ok (.enter f args) w)
    (hc : ∀ d w, C d w → Now i o d → Calls P f args w fun e w' => e = .returned v ∧ C (upd d i) w')
    (h : wpCalm P ops C Q rest (i + 1) (a.put o.dst v)) : wpCalm P ops C Q (o :: rest) i a := by
  unfold wpCalm
  rw [if_pos hg]
  refine ⟨v, fun d w hw hn => ?_, h⟩
  unfold calmAt
  rw [hv w]
  exact hc d w hw hn
end
end Go.Proofs.Ytoljahfofkmdaaa

/-! A region that draws its order, walked once in the order of the text, where an operation may hand back any value of a set (a new box, a slice in new memory). -/
namespace Go.Proofs.Ytoljahfofkmdaaa
open Go

/-- What each operation that has come up left behind (a store: what it stored). -/
abbrev Rec := Nat → Option Value
def noRec : Rec := fun _ => none
def setRec (δ : Rec) (i : Nat) (v : Value) : Rec := fun j => if j = i then some v else δ j
theorem setRec_self (δ : Rec) (i : Nat) (v : Value) : setRec δ i v i = some v := by simp [setRec]
theorem setRec_ne (δ : Rec) {i j : Nat} (v : Value) (h : j ≠ i) : setRec δ i v j = δ j := by simp [setRec, h]

def recOf (o : Oper) (a : Act) (v : Value) : Value := match o.op with | .store _ _ y => a.eval y | _ => v

section
variable {P : Program} {ops : Array Oper} {C : Rec → World → Prop} {S : Nat → Array Value → Value → Prop}

def setUpon (P : Program) (R : Value → World → Prop) : Result Next → Prop
  | .ok (.value u) w' => R u w'
  | .ok .skip w' => R undef w'
  | .ok (.enter f args) w' => Calls P f args w' (fun e w'' => ∃ v, e = .returned v ∧ R v w'')
  | _ => False

/-- It has not come up; what it waits for has; and what has come up had all that it waits for. -/
structure NowR (ops : Array Oper) (i : Nat) (o : Oper) (δ : Rec) : Prop where
  not : δ i = none
  deps : ∀ e ∈ o.after, Region.binds .any e = true → (δ e.on).isSome = true
  shut : ∀ k ok, ops[k]? = some ok → (δ k).isSome = true → ∀ e ∈ ok.after, Region.binds .any e = true → (δ e.on).isSome = true

/-- The operands that this operation reads are what has been left behind. -/
def Agree (ops : Array Oper) (δ : Rec) (o : Oper) (a : Act) : Prop :=
  ∀ k ok d u, ops[k]? = some ok → ok.dst = some d → Operand.tmp d ∈ o.op.operands.toList → δ k = some u → a.eval (.tmp d) = u

def vals (a : Act) (o : Oper) : Array Value := o.op.operands.map a.eval

def setOp (P : Program) (ops : Array Oper) (C : Rec → World → Prop) (S : Nat → Array Value → Value → Prop) (i : Nat) (o : Oper) (a : Act) : Prop :=
  ∀ δ w, C δ w → NowR ops i o δ → Agree ops δ o a → setUpon P (fun v w' => S i (vals a o) v ∧ C (setRec δ i (recOf o a v)) w') ((execOp a.eval o).run P w)

/-- The walk in the order of the text, from operation i on. -/
def wpSet (P : Program) (ops : Array Oper) (C : Rec → World → Prop) (S : Nat → Array Value → Value → Prop) (Q : Act → Prop) : List Oper → Nat → Act → Prop
  | [], _, a => Q a
  | o :: rest, i, a =>
    if Region.wanted o (yielded ops a.tmps) then setOp P ops C S i o a ∧ (∃ v, S i (vals a o) v) ∧ ∀ v, S i (vals a o) v → wpSet P ops C S Q rest (i + 1) (a.put o.dst v)
    else (∀ δ w, C δ w → NowR ops i o δ → C (setRec δ i undef) w) ∧ wpSet P ops C S Q rest (i + 1) (a.put o.dst undef)

/-- What operation i may put into its slot. -/
def Out (ops : Array Oper) (S : Nat → Array Value → Value → Prop) (i : Nat) (o : Oper) (a : Act) (v : Value) : Prop :=
  if Region.wanted o (yielded ops a.tmps) then S i (vals a o) v else v = undef

def LeavesR (P : Program) (ops : Array Oper) (C : Rec → World → Prop) (S : Nat → Array Value → Value → Prop) (i : Nat) (o : Oper) (a : Act) : Prop :=
  (Region.wanted o (yielded ops a.tmps) = true ∧ setOp P ops C S i o a) ∨
  (Region.wanted o (yielded ops a.tmps) = false ∧ ∀ δ w, C δ w → NowR ops i o δ → C (setRec δ i undef) w)

theorem eval_of_apart {o : Oper} {a : Act} {d : Option Tmp} {v : Value} (h : ∀ t, d = some t → t ∉ o.looksAt ops) {x : Operand} (hx : x ∈ o.op.operands.toList) : (a.put d v).eval x = a.eval x :=
  Act.eval_put fun t ht hxt => h t ht (by subst hxt; exact List.mem_append_left _ (List.mem_filterMap.2 ⟨.tmp t, hx, rfl⟩))

theorem vals_put {o : Oper} {a : Act} {d : Option Tmp} {v : Value} (h : ∀ t, d = some t → t ∉ o.looksAt ops) : vals (a.put d v) o = vals a o := by
  unfold vals
  apply Array.map_congr_left
  intro x hx
  exact eval_of_apart h (by simpa using hx)

theorem recOf_put {o : Oper} {a : Act} {d : Option Tmp} {u v : Value} (h : ∀ t, d = some t → t ∉ o.looksAt ops) : recOf o (a.put d u) v = recOf o a v := by
  have key := fun x hx => eval_of_apart (a := a) (v := u) h (x := x) hx
  unfold recOf
  cases hop : o.op with
  | store T x y => exact key y (by simp [hop, Op.operands])
  | _ => rfl

theorem agree_put {δ : Rec} {o : Oper} {a : Act} {d : Option Tmp} {u : Value} (h : ∀ t, d = some t → t ∉ o.looksAt ops) : Agree ops δ o (a.put d u) ↔ Agree ops δ o a := by
  unfold Agree
  refine forall_congr' fun k => forall_congr' fun ok => forall_congr' fun t => forall_congr' fun x => ?_
  refine forall_congr' fun _ => forall_congr' fun _ => forall_congr' fun hm => ?_
  rw [eval_of_apart h hm]

theorem setOp_put {i : Nat} {o : Oper} {a : Act} {d : Option Tmp} {u : Value} (hs : ∀ cs b, o.op ≠ .select cs b) (h : ∀ t, d = some t → t ∉ o.looksAt ops) : setOp P ops C S i o (a.put d u) ↔ setOp P ops C S i o a := by
  unfold setOp
  rw [execOp_put o hs a d u h, vals_put h]
  refine forall_congr' fun δ => forall_congr' fun w => ?_
  rw [agree_put h]
  refine forall_congr' fun _ => forall_congr' fun _ => forall_congr' fun _ => ?_
  have e : (fun v w' => S i (vals a o) v ∧ C (setRec δ i (recOf o (a.put d u) v)) w') = (fun v w' => S i (vals a o) v ∧ C (setRec δ i (recOf o a v)) w') := by
    funext v w'; rw [recOf_put h]
  rw [e]

theorem leavesR_put {i : Nat} {o : Oper} {a : Act} {d : Option Tmp} {u : Value} (hs : ∀ cs b, o.op ≠ .select cs b) (h : ∀ t, d = some t → t ∉ o.looksAt ops) : LeavesR P ops C S i o (a.put d u) ↔ LeavesR P ops C S i o a := by
  unfold LeavesR
  rw [setOp_put hs h, wanted_put o a d u h]

theorem out_put {i : Nat} {o : Oper} {a : Act} {d : Option Tmp} {u v : Value} (h : ∀ t, d = some t → t ∉ o.looksAt ops) : Out ops S i o (a.put d u) v ↔ Out ops S i o a v := by
  unfold Out
  rw [wanted_put o a d u h, vals_put h]

/-- Whatever order is picked from here on. -/
def wpAnyR (P : Program) (ops : Array Oper) (C : Rec → World → Prop) (S : Nat → Array Value → Value → Prop) (Q : Act → Prop) : Nat → Array Bool → Act → Prop
  | 0, listed, a => Region.ready .any ops listed = [] ∧ Q a ∧ ∀ j, j < ops.size → listed.getD j false = true
  | fuel + 1, listed, a =>
    (Region.ready .any ops listed = [] → Q a ∧ ∀ j, j < ops.size → listed.getD j false = true) ∧
    ∀ i ∈ Region.ready .any ops listed, ∃ o, ops[i]? = some o ∧ LeavesR P ops C S i o a ∧ (∃ v, Out ops S i o a v) ∧ ∀ v, Out ops S i o a v → wpAnyR P ops C S Q fuel (listed.setIfInBounds i true) (a.put o.dst v)

theorem wpAnyR_first {Q : Act → Prop} {i : Nat} {oi : Oper} (hi : ops[i]? = some oi) (hsel : ∀ (j : Nat) (o : Oper) cs b, ops[j]? = some o → o.op ≠ .select cs b) :
    ∀ (fuel : Nat) (listed : Array Bool) (a : Act),
      (∀ j oj, ops[j]? = some oj → j ≠ i → listed.getD j true = false → (∀ e ∈ oj.after, Region.binds .any e = true → e.on ≠ i) → oi.apart ops oj = true) →
      i ∈ Region.ready .any ops listed → LeavesR P ops C S i oi a → (∃ v, Out ops S i oi a v) →
      (∀ v, Out ops S i oi a v → wpAnyR P ops C S Q fuel (listed.setIfInBounds i true) (a.put oi.dst v)) → wpAnyR P ops C S Q (fuel + 1) listed a := by
  intro fuel
  induction fuel with
  | zero =>
    intro listed a _ hr hy hx H
    refine ⟨fun h => (by rw [h] at hr; cases hr), fun j hj => ?_⟩
    by_cases hji : j = i
    · subst hji; exact ⟨oi, hi, hy, hx, H⟩
    · obtain ⟨v0, hv0⟩ := hx
      have := ready_mono hj hji
      rw [(H v0 hv0).1] at this
      cases this
  | succ fuel ih =>
    intro listed a hfree hr hy hx H
    refine ⟨fun h => (by rw [h] at hr; cases hr), fun j hj => ?_⟩
    by_cases hji : j = i
    · subst hji; exact ⟨oi, hi, hy, hx, H⟩
    · obtain ⟨v0, hv0⟩ := hx
      obtain ⟨oj, hoj, hyj, hxj, _⟩ := (H v0 hv0).2 j (ready_mono hj hji)
      obtain ⟨hjun, oj', hoj', hall⟩ := mem_ready.1 hj
      obtain rfl : oj = oj' := Option.some.inj (hoj.symm.trans hoj')
      have hnot : ∀ e ∈ oj.after, Region.binds .any e = true → e.on ≠ i := fun e he hb heq => by
        have h1 := hall e he hb
        have h0 := (mem_ready.1 hr).1
        rw [heq] at h1
        rcases Nat.lt_or_ge i listed.size with h' | h'
        · simp [h'] at h0 h1; rw [h0] at h1; cases h1
        · simp [Array.getElem?_eq_none h'] at h1
      have hap := hfree j oj hoj hji hjun hnot
      obtain ⟨h1, h2, h3⟩ := Oper.apart_spec hap
      have hsj : ∀ cs b, oj.op ≠ .select cs b := fun cs b => hsel j oj cs b hoj
      have hsi : ∀ cs b, oi.op ≠ .select cs b := fun cs b => hsel i oi cs b hi
      have hfree' : ∀ k ok, ops[k]? = some ok → k ≠ i → (listed.setIfInBounds j true).getD k true = false →
          (∀ e ∈ ok.after, Region.binds .any e = true → e.on ≠ i) → oi.apart ops ok = true := fun k ok hk hki hun hno => by
        refine hfree k ok hk hki ?_ hno
        by_cases hjk : j = k
        · subst hjk; exact hjun
        · rw [getD_set_ne true hjk] at hun; exact hun
      refine ⟨oj, hoj, (leavesR_put hsj h1).1 hyj, ?_, fun u hu => ?_⟩
      · obtain ⟨u, hu⟩ := hxj
        exact ⟨u, (out_put h1).1 hu⟩
      · refine ih _ _ hfree' (ready_mono hr (Ne.symm hji)) ((leavesR_put hsi h3).2 hy) ⟨v0, (out_put h3).2 hv0⟩ fun v hv => ?_
        have hv' := (out_put h3).1 hv
        obtain ⟨oj', hoj', _, _, hrest⟩ := (H v hv').2 j (ready_mono hj hji)
        obtain rfl : oj = oj' := Option.some.inj (hoj.symm.trans hoj')
        have := hrest u ((out_put h1).2 hu)
        rw [Array.setIfInBounds_comm _ _ hji, ← Act.put_comm a v u h2]
        exact this

theorem wpAnyR_lex {Q : Act → Prop} (hs : Region.noSelect ops = true) : ∀ (l : List Oper) (k : Nat) (listed : Array Bool) (a : Act), (∀ j, l[j]? = ops[k + j]?) → listed.size = ops.size → (∀ j, j < k → listed.getD j false = true) →
    Region.lexFrom .any ops l.length k listed = true → wpSet P ops C S Q l k a → wpAnyR P ops C S Q l.length listed a
  | [], k, listed, _, hl, _, hd, hB, h => ⟨by simpa [Region.lexFrom] using hB, h, fun j hj => hd j (by
      rcases Nat.lt_or_ge j k with h' | h'
      · exact h'
      · have := hl (j - k); rw [show k + (j - k) = j by omega] at this; simp [hj] at this)⟩
  | o :: l, k, listed, a, hl, hsz, hd, hB, h => by
    have h0 : ops[k]? = some o := by simpa using (hl 0).symm
    simp only [List.length_cons, Region.lexFrom, Bool.and_eq_true] at hB
    obtain ⟨⟨hr, hf⟩, hB'⟩ := hB
    have hl' : ∀ j, l[j]? = ops[(k + 1) + j]? := fun j => by have := hl (j + 1); simpa [Nat.add_assoc, Nat.add_comm 1 j] using this
    have hy : LeavesR P ops C S k o a ∧ (∃ v, Out ops S k o a v) ∧ ∀ v, Out ops S k o a v → wpSet P ops C S Q l (k + 1) (a.put o.dst v) := by
      unfold wpSet at h
      unfold Out
      split at h
      · rename_i hw; simp only [hw, if_true]; exact ⟨.inl ⟨hw, h.1⟩, h.2.1, h.2.2⟩
      · rename_i hw; simp only [hw]; exact ⟨.inr ⟨by simpa using hw, h.1⟩, ⟨undef, rfl⟩, fun v hv => by subst hv; exact h.2⟩
    obtain ⟨hy, hx, hK⟩ := hy
    exact wpAnyR_first h0 (Region.noSelect_spec hs) l.length listed a (Region.free_spec h0 hf) (by simpa using hr) hy hx fun v hv =>
      wpAnyR_lex hs l (k + 1) _ _ hl' (by simpa using hsz) (fun j hj => by
        by_cases hjk : k = j
        · subst hjk
          have hk : k < listed.size := by rw [hsz]; exact (Array.getElem?_eq_some_iff.1 h0).1
          simp [hk]
        · rw [getD_set_ne false hjk]; exact hd j (by omega)) hB' (hK v hv)

/-- All slots that the region writes are apart, and lie within the frame; what a store stores comes from what it waits for. -/
def Region.slotsB (ops : Array Oper) (n : Nat) : Bool :=
  (List.range ops.size).all fun i => match ops[i]? with
    | none => true
    | some o => (match o.dst with
      | none => true
      | some d => decide (d < n) && (List.range ops.size).all fun j => j == i || (match ops[j]? with | some oj => oj.dst != some d | none => true)) &&
      (match o.op with
      | .store _ _ _ => o.dst == none
      | _ => true) &&
      (match o.op with
      | .store _ _ (.tmp t) => (List.range ops.size).all fun j => match ops[j]? with
        | some oj => oj.dst != some t || o.after.any (fun e => Region.binds .any e && e.on == j)
        | none => true
      | _ => true)

structure Slots (ops : Array Oper) (n : Nat) : Prop where
  nodst : ∀ (i : Nat) (o : Oper) T x y, ops[i]? = some o → o.op = .store T x y → o.dst = none
  lt : ∀ (i : Nat) (o : Oper) d, ops[i]? = some o → o.dst = some d → d < n
  ne : ∀ (i j : Nat) (o oj : Oper) d, ops[i]? = some o → ops[j]? = some oj → o.dst = some d → oj.dst = some d → j = i
  src : ∀ (i j : Nat) (o oj : Oper) T x t, ops[i]? = some o → ops[j]? = some oj → o.op = .store T x (.tmp t) → oj.dst = some t → ∃ e ∈ o.after, Region.binds .any e = true ∧ e.on = j

theorem Region.slotsB_spec {n : Nat} (h : Region.slotsB ops n = true) : Slots ops n := by
  unfold Region.slotsB at h
  rw [List.all_eq_true] at h
  refine ⟨fun i o T x y hi hop => ?_, fun i o d hi hd => ?_, fun i j o oj d hi hj hd hdj => ?_, fun i j o oj T x t hi hj hop hdj => ?_⟩
  · have := h i (List.mem_range.2 (Array.getElem?_eq_some_iff.1 hi).1)
    simp only [hi, hop, Bool.and_eq_true] at this
    simpa using this.1.2
  · have := h i (List.mem_range.2 (Array.getElem?_eq_some_iff.1 hi).1)
    simp only [hi, hd, Bool.and_eq_true, decide_eq_true_eq] at this
    exact this.1.1.1
  · have := h i (List.mem_range.2 (Array.getElem?_eq_some_iff.1 hi).1)
    simp only [hi, hd, Bool.and_eq_true, List.all_eq_true] at this
    have := this.1.1.2 j (List.mem_range.2 (Array.getElem?_eq_some_iff.1 hj).1)
    simp only [hj, hdj, Bool.or_eq_true, beq_iff_eq] at this
    rcases this with h1 | h1
    · exact h1
    · simp at h1
  · have := h i (List.mem_range.2 (Array.getElem?_eq_some_iff.1 hi).1)
    simp only [hi, hop, Bool.and_eq_true, List.all_eq_true] at this
    have := this.2 j (List.mem_range.2 (Array.getElem?_eq_some_iff.1 hj).1)
    simp only [hj, hdj, Bool.or_eq_true, Array.any_eq_true] at this
    rcases this with h1 | ⟨m, hm, h1⟩
    · simp at h1
    · simp only [Bool.and_eq_true, beq_iff_eq] at h1
      exact ⟨_, Array.getElem_mem hm, h1.1, h1.2⟩

/-- What has been left behind stands in the slots. -/
structure Whole (ops : Array Oper) (δ : Rec) (a : Act) : Prop where
  slot : ∀ (k : Nat) (ok : Oper) d u, ops[k]? = some ok → ok.dst = some d → δ k = some u → a.eval (.tmp d) = u
  kept : ∀ (k : Nat) (ok : Oper) T x y u, ops[k]? = some ok → ok.op = .store T x y → ok.guard = none → δ k = some u → u = a.eval y

theorem wanted_none {o : Oper} {y : Nat → Option Bool} (h : o.guard = none) : Region.wanted o y = true := by simp [Region.wanted, h]

theorem eval_put_self {a : Act} {d : Tmp} {v : Value} (h : d < a.tmps.size) : (a.put (some d) v).eval (.tmp d) = v := by
  simp [Act.put, Act.eval, h]
theorem eval_put_ne {a : Act} {d t : Tmp} {v : Value} (h : d ≠ t) : (a.put (some d) v).eval (.tmp t) = a.eval (.tmp t) :=
  Act.eval_put fun d' hd hx => by cases hd; cases hx; exact h rfl
theorem size_put (a : Act) (d : Option Tmp) (v : Value) : (a.put d v).tmps.size = a.tmps.size := by cases d <;> simp [Act.put]

theorem Whole.put {n i : Nat} {o : Oper} {a : Act} {δ : Rec} {v : Value} (hw : Whole ops δ a) (hs : Slots ops n) (hi : ops[i]? = some o) (hn : a.tmps.size = n) (hno : δ i = none) (hx : ∀ k ok, ops[k]? = some ok → (δ k).isSome = true → ∀ e ∈ ok.after, Region.binds .any e = true → (δ e.on).isSome = true) (r : Value)
    (hr : (∀ T x y, o.op = .store T x y → o.guard = none → r = a.eval y) ∧ ((∀ T x y, o.op ≠ .store T x y) → r = v)) : Whole ops (setRec δ i r) (a.put o.dst v) := by
  have keep : ∀ t, (∀ d, o.dst = some d → d ≠ t) → (a.put o.dst v).eval (.tmp t) = a.eval (.tmp t) := fun t ht => by
    cases hd : o.dst with
    | none => rfl
    | some d => exact eval_put_ne (ht d hd)
  refine ⟨fun k ok d u hk hd hu => ?_, fun k ok T x y u hk hop hg hu => ?_⟩
  · by_cases hki : k = i
    · subst hki
      obtain rfl : o = ok := Option.some.inj (hi.symm.trans hk)
      rw [setRec_self] at hu
      obtain rfl := Option.some.inj hu
      rw [hd, eval_put_self (by rw [hn]; exact hs.lt k o d hk hd)]
      exact (hr.2 fun T x y hop => by have := hs.nodst k o T x y hk hop; rw [hd] at this; cases this).symm
    · rw [setRec_ne _ _ hki] at hu
      rw [keep d fun d' hd' he => by subst he; exact hki (hs.ne i k o ok d' hi hk hd' hd)]
      exact hw.slot k ok d u hk hd hu
  · have hy : (a.put o.dst v).eval y = a.eval y ∨ ∃ t, y = .tmp t ∧ o.dst = some t := by
      cases y with
      | tmp t =>
        by_cases h : o.dst = some t
        · exact .inr ⟨t, rfl, h⟩
        · exact .inl (keep t fun d hd he => by subst he; exact h hd)
      | _ => exact .inl (by cases o.dst <;> rfl)
    by_cases hki : k = i
    · subst hki
      obtain rfl : o = ok := Option.some.inj (hi.symm.trans hk)
      rw [setRec_self] at hu
      obtain rfl := Option.some.inj hu
      rw [hs.nodst k o T x y hk hop]
      exact hr.1 T x y hop hg
    · rw [setRec_ne _ _ hki] at hu
      rcases hy with hy | ⟨t, rfl, hd⟩
      · rw [hy]; exact hw.kept k ok T x y u hk hop hg hu
      · obtain ⟨e, he, hb, hon⟩ := hs.src k i ok o T x t hk hi hop hd
        have := hx k ok hk (by rw [hu]; rfl) e he hb
        rw [hon, hno] at this
        cases this

theorem wpAny_of_set {n : Nat} {Q : Act → Prop} {Q' : Exit → Act → World → Prop} (hs : Slots ops n) (hQ : ∀ a δ w, C δ w → (∀ j, j < ops.size → (δ j).isSome = true) → Whole ops δ a → Q a → Q' .normal a w) :
    ∀ (fuel : Nat) (listed : Array Bool) (δ : Rec) (a : Act) (w : World), C δ w → (∀ j, listed.getD j false = (δ j).isSome) → listed.size = ops.size → Whole ops δ a → a.tmps.size = n →
      (∀ k ok, ops[k]? = some ok → (δ k).isSome = true → ∀ e ∈ ok.after, Region.binds .any e = true → (δ e.on).isSome = true) →
      wpAnyR P ops C S Q fuel listed a → wpAny P .any ops Q' fuel listed a w
  | 0, _, _, _, _, hc, hf, _, hw, _, _, h => ⟨h.1, hQ _ _ _ hc (fun j hj => by rw [← hf]; exact h.2.2 j hj) hw h.2.1⟩
  | fuel + 1, listed, δ, a, w, hc, hf, hsz, hw, hn, hx, h => ⟨fun h0 => hQ _ _ _ hc (fun j hj => by rw [← hf]; exact (h.1 h0).2 j hj) hw (h.1 h0).1, fun i hi => by
      obtain ⟨o, ho, hy, _, hr⟩ := h.2 i hi
      obtain ⟨h1, o', ho', hall⟩ := mem_ready.1 hi
      obtain rfl : o = o' := Option.some.inj (ho.symm.trans ho')
      have hno : δ i = none := by
        have := hf i
        rw [getD_both' h1] at this
        cases hd : δ i with
        | none => rfl
        | some u => rw [hd] at this; cases this
      have hnow : NowR ops i o δ := ⟨hno, fun e he hb => by rw [← hf]; exact hall e he hb, hx⟩
      have hflag : ∀ r j, (listed.setIfInBounds i true).getD j false = (setRec δ i r j).isSome := fun r j => by
        by_cases hij : i = j
        · subst hij
          have : i < listed.size := ready_lt hi
          simp [setRec, this]
        · rw [getD_set_ne false hij, hf, setRec_ne _ _ (fun e => hij e.symm)]
      have hxx : ∀ r k ok, ops[k]? = some ok → (setRec δ i r k).isSome = true → ∀ e ∈ ok.after, Region.binds .any e = true → (setRec δ i r e.on).isSome = true := fun r k ok hk hs' e he hb => by
        by_cases hon : e.on = i
        · rw [hon, setRec_self]; rfl
        · rw [setRec_ne _ _ hon]
          by_cases hki : k = i
          · subst hki
            obtain rfl : o = ok := Option.some.inj (ho.symm.trans hk)
            exact hnow.deps e he hb
          · rw [setRec_ne _ _ hki] at hs'
            exact hx k ok hk hs' e he hb
      unfold wpOp
      simp only [ho]
      rcases hy with ⟨hwant, hv⟩ | ⟨hwant, hcc⟩
      · rw [if_pos hwant]
        refine .inl ?_
        have hag : Agree ops δ o a := fun k ok d u hk hd _ hu => hw.slot k ok d u hk hd hu
        have hst := hv δ w hc hnow hag
        have go : ∀ v w', S i (vals a o) v ∧ C (setRec δ i (recOf o a v)) w' → wpAny P .any ops Q' fuel (listed.setIfInBounds i true) (a.put o.dst v) w' := fun v w' hh =>
          wpAny_of_set hs hQ fuel _ (setRec δ i (recOf o a v)) _ w' hh.2 (hflag _) (by simpa using hsz) (hw.put hs ho hn hno hx _ ⟨fun T x y hop _ => by simp [recOf, hop], fun hns => by
            unfold recOf; split
            · rename_i T x y hop; exact absurd hop (hns T x y)
            · rfl⟩) (by rw [size_put, hn]) (hxx _) (hr v (by unfold Out; rw [if_pos hwant]; exact hh.1))
        unfold Oper.wp
        generalize (execOp a.eval o).run P w = res at *
        cases res with
        | ok nx w' =>
          cases nx <;> simp only [setUpon] at hst <;> simp only [Oper.upon]
          case value u => exact go _ _ hst
          case skip => exact go _ _ hst
          case enter f args => exact hst.mono fun e w'' ⟨v, he, hh⟩ => by subst he; exact go _ _ hh
        | halt x w' => simp only [setUpon] at hst
      · rw [if_neg (by simp [hwant])]
        exact wpAny_of_set hs hQ fuel _ (setRec δ i undef) _ w (hcc δ w hc hnow) (hflag _) (by simpa using hsz) (hw.put hs ho hn hno hx _ ⟨fun T x y hop hg => (by rw [wanted_none hg] at hwant; cases hwant), fun _ => rfl⟩) (by rw [size_put, hn]) (hxx _) (hr undef (by unfold Out; rw [if_neg (by simp [hwant])]))⟩

/-- A region that draws its order, walked once in the order of the text; C tells the world by what has been left behind, S what an operation may hand back. -/
theorem wp_region_set {id : Nat} {Q : Exit → Act → World → Prop} {a : Act} {w : World} {l : List Oper} (C : Rec → World → Prop) (S : Nat → Array Value → Value → Prop) (hm : P.follows .mixedOrders = true) (hB : Region.lexB .any l.toArray = true)
    (hS : Region.slotsB l.toArray a.tmps.size = true) (hC : C noRec w.drew)
    (h : wpSet P l.toArray C S (fun a' => ∀ w' δ, C δ w' → (∀ j, j < l.length → (δ j).isSome = true) → Whole l.toArray δ a' → Q .normal a' w') l 0 a) : (Code.region id l.toArray true).wp P Q a w := by
  simp only [Region.lexB, Bool.and_eq_true] at hB
  refine wp_region_any hm (wpAny_of_set (C := C) (S := S) (n := a.tmps.size) (Q := fun a' => ∀ w' δ, C δ w' → (∀ j, j < l.length → (δ j).isSome = true) → Whole l.toArray δ a' → Q .normal a' w') (Region.slotsB_spec hS)
    (fun _ δ w' hc hd hw h => h w' δ hc (by simpa using hd) hw) _ _ noRec _ _ hC (fun j => ?_) (by simp) ⟨fun _ _ _ _ _ _ hu => (by cases hu), fun _ _ _ _ _ _ _ _ _ hu => (by cases hu)⟩ rfl (fun _ _ _ hs => (by cases hs)) ?_)
  · simp only [noRec, Option.isSome_none, Array.getD_eq_getD_getElem?, Array.getElem?_replicate]; split <;> rfl
  · have := wpAnyR_lex (P := P) (C := C) (S := S) hB.1 l 0 (Array.replicate l.toArray.size false) a (by simp) (by simp) (fun j hj => absurd hj (Nat.not_lt_zero _)) (by simpa using hB.2) h
    simpa using this
end
end Go.Proofs.Ytoljahfofkmdaaa

/-! Below a block a world is as it was, and no fewer draws have been made: a stricter word than the kit's, of the same name. -/
namespace Go.Proofs.Ytoljahfofkmdaaa
open Go Go.RowKit

structure Below (B : Nat) (w w' : World) : Prop where
  os : w'.os = w.os
  tape : w'.tape = w.tape
  output : w'.output = w.output
  size : w.heap.size ≤ w'.heap.size
  block : ∀ k, k < B → w'.heap[k]? = w.heap[k]?
  drawn : w.drawn ≤ w'.drawn
theorem Below.kit {B : Nat} {w w' : World} (h : Below B w w') : Go.RowKit.Below B w w' := ⟨h.os, h.tape, h.output, h.size, h.block⟩
theorem Below.of {B : Nat} {w w' : World} (h : Go.RowKit.Below B w w') (hd : w.drawn ≤ w'.drawn) : Below B w w' := ⟨h.os, h.tape, h.output, h.size, h.block, hd⟩
theorem Below.refl (B : Nat) (w : World) : Below B w w := ⟨rfl, rfl, rfl, Nat.le_refl _, fun _ _ => rfl, Nat.le_refl _⟩
theorem Below.trans {B : Nat} {a b c : World} (h : Below B a b) (k : Below B b c) : Below B a c := .of (h.kit.trans k.kit) (Nat.le_trans h.drawn k.drawn)
theorem Below.mono {B B' : Nat} {w w' : World} (h : Below B w w') (hB : B' ≤ B) : Below B' w w' := .of (h.kit.mono hB) h.drawn
theorem Below.drew {B : Nat} {a w : World} (h : Below B a w) : Below B a w.drew := .of h.kit.drew (Nat.le_trans h.drawn (Nat.le_succ _))
theorem Below.alloc {B : Nat} {a w : World} (h : Below B a w) (hB : B ≤ w.heap.size) (o : Obj) : Below B a (w.alloc o) := .of (h.kit.alloc hB o) h.drawn
theorem Below.setCell {B : Nat} {a w : World} (h : Below B a w) {p : Addr} (hp : B ≤ p.block) (u : Value) : Below B a (w.setCell p u) := .of (h.kit.setCell hp u) h.drawn
theorem Below.cell {B : Nat} {w w' : World} (h : Below B w w') {p : Addr} (hp : p.block < B) : w'.cell? p = w.cell? p := h.kit.cell hp
theorem Below.frozen {B : Nat} {w w' : World} (h : Below B w w') {p : Addr} (hp : p.block < B) : w'.frozen? p = w.frozen? p := h.kit.frozen hp
theorem Below.frame {W w' : World} (h : Below W.heap.size W w') (may : MemPlace → Prop) : W.keptBut w' may := h.kit.frame may
theorem Below.same {W w' : World} (h : Below W.heap.size W w') {p : MemPlace} (hp : p.block < W.heap.size) : W.sameAt w' p := h.kit.same hp
theorem below_drewN {B : Nat} {a w : World} (h : Below B a w) (n : Nat) : Below B a (w.drewN n) := .of (Go.below_drewN h.kit n) (Nat.le_trans h.drawn (Nat.le_add_right _ _))
theorem below_setRow {B g : Nat} {w0 w : World} (hb : Below B w0 w) (hBg : B ≤ g) (cs : Array Value) : Below B w0 (w.setRow g cs) := .of (Go.below_setRow hb.kit hBg cs) hb.drawn
/-- Blocks made and draws: what a world is behind a call that turns nothing. -/
theorem below_grows {w w' : World} (h : Below w.heap.size w w') : ∃ q os, w' = { w.drewN q with heap := w.heap ++ os } := by
  refine ⟨w'.drawn - w.drawn, w'.heap.extract w.heap.size w'.heap.size, ?_⟩
  have h1 := h.os; have h2 := h.tape; have h3 := h.output; have h4 := h.size; have h5 := h.block; have h6 := h.drawn
  obtain ⟨hp', tp', dr', os', out'⟩ := w'
  obtain ⟨hp, tp, dr, os, out⟩ := w
  simp only at h1 h2 h3 h4 h5 h6
  subst h1 h2 h3
  simp only [World.drewN, World.mk.injEq, true_and, and_true]
  refine ⟨?_, by omega⟩
  apply Array.ext_getElem?
  intro i
  rw [Array.getElem?_append, Array.getElem?_extract]
  by_cases hi : i < hp.size
  · rw [if_pos hi, h5 i hi]
  · rw [if_neg hi]
    by_cases h7 : i < hp'.size
    · rw [if_pos (by omega), show hp.size + (i - hp.size) = i by omega]
    · rw [if_neg (by omega), Array.getElem?_eq_none (by omega)]
section
variable {P : Program}
end
end Go.Proofs.Ytoljahfofkmdaaa

/-! Small laws on rows of cells: a struct or an array that is read, written or handed back whole. Over any program. -/
namespace Go.Proofs.Ytoljahfofkmdaaa
open Go.RowKit

/-- Block g of w holds these cells. -/
@[reducible] def IsR (w : World) (g : Nat) (cs : Array Value) (t : TypeId) : Prop := w.heap[g]? = some (.cells cs t (0, 0))

theorem heap_top (w : World) (o : Obj) (k : Nat) (h : k = w.heap.size) : (w.alloc o).heap[k]? = some o := by
  subst h
  show (w.heap.push o)[w.heap.size]? = _
  simp
theorem alloc_size (w : World) (o : Obj) : (w.alloc o).heap.size = w.heap.size + 1 := by
  show (w.heap.push o).size = _
  simp

/-- What a store into block g leaves. -/
structure Put (g : Nat) (cs : Array Value) (t : TypeId) (w w1 : World) : Prop where
  row : IsR w1 g cs t
  rest : ∀ k, k ≠ g → w1.heap[k]? = w.heap[k]?
  below : ∀ B w0, B ≤ g → Below B w0 w → Below B w0 w1
  size : w1.heap.size = w.heap.size

theorem put_setRow {w : World} {g : Nat} {old cs : Array Value} {t : TypeId} (hg : IsR w g old t) : Put g cs t w (w.setRow g cs) :=
  ⟨setRow_heap w g _ _ _ _ hg, fun k hk => setRow_other w g k _ hk, fun _ _ hB hb => below_setRow hb hB _, by simp⟩
theorem put_setCell {w : World} {g i : Nat} {old : Array Value} {t : TypeId} (v : Value) (hg : IsR w g old t) : Put g (old.setIfInBounds i v) t w (w.setCell ⟨g, i, none⟩ v) :=
  ⟨heap_setCell_same w g i _ _ v hg, fun j hj => heap_setCell_other w _ j _ hj, fun _ _ hB hb => hb.setCell hB _, by simp [World.setCell]⟩

theorem IsR.kept {w w1 : World} {g : Nat} {cs : Array Value} {t : TypeId} (h : IsR w g cs t) (hb : Below w.heap.size w w1) : IsR w1 g cs t :=
  (hb.block g (Array.getElem?_eq_some_iff.1 h).1).trans h
theorem IsR.lt {w : World} {g : Nat} {cs : Array Value} {t : TypeId} (h : IsR w g cs t) : g < w.heap.size := (Array.getElem?_eq_some_iff.1 h).1
theorem IsR.put {w w1 : World} {g g' : Nat} {cs cs' : Array Value} {t t' : TypeId} (h : IsR w g cs t) (hp : Put g' cs' t' w w1) (hne : g ≠ g') : IsR w1 g cs t := (hp.rest g hne).trans h
theorem IsR.cell {w : World} {g : Nat} {cs : Array Value} {t : TypeId} (h : IsR w g cs t) (j : Nat) : w.cell? ⟨g, j, none⟩ = cs[j]? := cell_of_row w g j cs t _ h
theorem IsR.froz {w : World} {g : Nat} {cs : Array Value} {t : TypeId} (h : IsR w g cs t) (j : Nat) : w.frozen? ⟨g, j, none⟩ = false := frozen_of_row w g j cs t h
theorem IsR.alloc {w : World} {g : Nat} {cs : Array Value} {t : TypeId} (h : IsR w g cs t) (o : Obj) : IsR (w.alloc o) g cs t := (Below.heap_alloc w o g h.lt).trans h

section
variable {P : Program} {ops : Array Oper} {rest : List Oper} {o : Oper} {a : Act} {w : World} {Q : Exit → Act → World → Prop}
/-- A row is written whole. -/
theorem wpR_store (hgd : o.guard = none) (T : TypeId) (x y : Operand) (ho : o.op = .store T x y) (g : Nat) (hx : a.eval x = .pointer (some ⟨g, 0, none⟩)) (cs old : Array Value) (hy : a.eval y = .agg cs) (t : TypeId)
    (hg : IsR w g old t) (hi : (P.info? T).map (·.size) = some cs.size) (hold : old.size = cs.size) (h1 : cs.all (·.oneCell') = true)
    (h : ∀ w1 : World, Put g cs t w w1 → wpList P ops Q rest (a.put o.dst undef) w1) : wpList P ops Q (o :: rest) a w :=
  wpList_store_row hgd _ x y ho g _ hx hy _ _ hg hi hold h1 (h _ (put_setRow hg))
end

section
variable {P : Program} {w : World}
theorem run_row {T : TypeId} {g : Nat} {cs : Array Value} {t : TypeId} {d : TypeDesc} (hg : IsR w g cs t) (hu : P.underlying T = some d) (hd : (match d with | .struct _ | .array _ _ => true | _ => false) = true)
    (hi : (P.info? T).map (·.size) = some cs.size) : (loadVar T ⟨g, 0, none⟩).run P w = .ok (.agg cs) w := run_loadVar_row w g t T cs _ d hg hu hd hi
variable {fn : Func} {R : Ending → World → Prop} {tmps : Array Value} {p q r : Tmp} {T : TypeId} {d : TypeDesc} {g : Nat} {cs : Array Value} {t : TypeId}
/-- One result: a row. -/
theorem ret_row (h : fn.results = #[.cell p T]) (hp : tmps.getD p undef = .pointer (some ⟨g, 0, none⟩)) (hg : IsR w g cs t) (hu : P.underlying T = some d) (hd : (match d with | .struct _ | .array _ _ => true | _ => false) = true)
    (hi : (P.info? T).map (·.size) = some cs.size) (hR : R (.returned (.agg cs)) w) : bodyPost P fn R .ret { tmps, defers := [] } w :=
  bodyPost_ret (results_cell_row h tmps w g _ _ _ _ hp hg hu hd hi) rfl hR
/-- Two: a row, and a plain value. -/
theorem ret_row_tmp (h : fn.results = #[.cell p T, .tmp q]) (hp : tmps.getD p undef = .pointer (some ⟨g, 0, none⟩)) (v : Value) (hq : tmps.getD q undef = v) (hg : IsR w g cs t) (hu : P.underlying T = some d)
    (hd : (match d with | .struct _ | .array _ _ => true | _ => false) = true) (hi : (P.info? T).map (·.size) = some cs.size) (hR : R (.returned (.tuple #[.agg cs, v])) w) :
    bodyPost P fn R .ret { tmps, defers := [] } w := by
  have hp' : tmps[p]?.getD undef = .pointer (some ⟨g, 0, none⟩) := by simpa using hp
  have hq' : tmps[q]?.getD undef = v := by simpa using hq
  refine bodyPost_ret (v := .tuple #[.agg cs, v]) ?_ rfl hR
  simp [results, h, hp', hq', asAddr, run_row hg hu hd hi]
end
end Go.Proofs.Ytoljahfofkmdaaa

/-! A walker: straight code over named cells is reckoned by the kernel, not walked. This text: memory (blocks that are one's own, of any make), the reckoning of one operation. -/
namespace Go.Proofs.Ytoljahfofkmdaaa
open Go Go.RowKit

/-- A block of one's own, and what stands there. -/
abbrev Ob := Nat × Obj

structure Hs (w0 : World) (M : List Ob) (w : World) : Prop where
  rows : ∀ r ∈ M, w.heap[r.1]? = some r.2
  low : ∀ r ∈ M, w0.heap.size ≤ r.1
  apart : (M.map (·.1)).Nodup
  below : Below w0.heap.size w0 w

/-- w1 is w but for block g, where o stands now. -/
structure Turn (g : Nat) (o : Obj) (w w1 : World) : Prop where
  row : w1.heap[g]? = some o
  rest : ∀ k, k ≠ g → w1.heap[k]? = w.heap[k]?
  size : w1.heap.size = w.heap.size
  os : w1.os = w.os
  tape : w1.tape = w.tape
  output : w1.output = w.output
  drawn : w.drawn ≤ w1.drawn

theorem Turn.below {g : Nat} {o : Obj} {w w1 w0 : World} {B : Nat} (t : Turn g o w w1) (hg : B ≤ g) (h : Below B w0 w) : Below B w0 w1 :=
  ⟨t.os.trans h.os, t.tape.trans h.tape, t.output.trans h.output, by rw [t.size]; exact h.size, fun k hk => (t.rest k (by omega)).trans (h.block k hk), Nat.le_trans h.drawn t.drawn⟩

section
variable {w0 w w1 : World} {M M' : List Ob} {g : Nat} {o o' : Obj}
theorem below_two' {B : Nat} (h : Below B w0 w) (hB : B ≤ w0.heap.size) (h1 : Below w.heap.size w w1) : Below B w0 w1 := h.trans (h1.mono (Nat.le_trans hB h.size))
theorem Hs.start (w : World) : Hs w [] w := ⟨fun _ h => (by cases h), fun _ h => (by cases h), by simp, Below.refl _ _⟩
theorem Hs.row (h : Hs w0 M w) (i : Nat) (e : M[i]? = some (g, o)) : w.heap[g]? = some o := h.rows _ (List.mem_of_getElem? e)
theorem hs_lt (h : w.heap[g]? = some o) : g < w.heap.size := (Array.getElem?_eq_some_iff.1 h).1
theorem Hs.kept (h : Hs w0 M w) (hb : Below w.heap.size w w1) : Hs w0 M w1 :=
  ⟨fun r hr => (hb.block r.1 (hs_lt (h.rows r hr))).trans (h.rows r hr), h.low, h.apart, below_two' h.below (Nat.le_refl _) hb⟩
theorem Hs.drew (h : Hs w0 M w) : Hs w0 M w.drew := ⟨h.rows, h.low, h.apart, h.below.drew⟩
theorem Hs.perm (h : Hs w0 M w) (p : M.Perm M') : Hs w0 M' w :=
  ⟨fun r hr => h.rows r (p.mem_iff.2 hr), fun r hr => h.low r (p.mem_iff.2 hr), (p.map _).nodup_iff.1 h.apart, h.below⟩
theorem Hs.sub (h : Hs w0 M w) (s : M'.Sublist M) : Hs w0 M' w :=
  ⟨fun r hr => h.rows r (s.subset hr), fun r hr => h.low r (s.subset hr), h.apart.sublist (s.map _), h.below⟩
theorem Hs.cons (h : Hs w0 M w) (o : Obj) : Hs w0 ((w.heap.size, o) :: M) (w.alloc o) := by
  refine ⟨fun r hr => ?_, fun r hr => ?_, ?_, h.below.alloc h.below.size _⟩
  · rcases List.mem_cons.1 hr with rfl | h1
    · exact heap_top w o _ rfl
    · exact (Below.heap_alloc w o _ (hs_lt (h.rows r h1))).trans (h.rows r h1)
  · rcases List.mem_cons.1 hr with rfl | h1
    · exact h.below.size
    · exact h.low r h1
  · simp only [List.map_cons, List.nodup_cons]
    refine ⟨fun hm => ?_, h.apart⟩
    obtain ⟨r, hr, he⟩ := List.mem_map.1 hm
    have := hs_lt (h.rows r hr)
    omega
theorem Hs.turnHead (h : Hs w0 ((g, o) :: M) w) (t : Turn g o' w w1) : Hs w0 ((g, o') :: M) w1 := by
  have hn := h.apart
  simp only [List.map_cons, List.nodup_cons] at hn
  refine ⟨fun r hr => ?_, fun r hr => ?_, by simpa using h.apart, t.below (h.low _ (List.mem_cons_self ..)) h.below⟩
  · rcases List.mem_cons.1 hr with rfl | h1
    · exact t.row
    · exact (t.rest r.1 fun e => hn.1 (List.mem_map.2 ⟨r, h1, e⟩)).trans (h.rows r (List.mem_cons_of_mem _ h1))
  · rcases List.mem_cons.1 hr with rfl | h1
    · exact h.low (g, o) (List.mem_cons_self ..)
    · exact h.low r (List.mem_cons_of_mem _ h1)
theorem ob_split {α : Type} : ∀ (l : List α) (i : Nat) (x : α), l[i]? = some x → ∀ y, ∃ R, l.Perm (x :: R) ∧ (l.set i y).Perm (y :: R)
  | [], _, _, h, _ => by simp at h
  | a :: l, 0, x, h, y => by
    simp at h; subst h
    exact ⟨l, List.Perm.refl _, List.Perm.refl _⟩
  | a :: l, i + 1, x, h, y => by
    obtain ⟨R, h1, h2⟩ := ob_split l i x (by simpa using h) y
    exact ⟨a :: R, (h1.cons a).trans (List.Perm.swap ..), by rw [List.set_cons_succ]; exact (h2.cons a).trans (List.Perm.swap ..)⟩
theorem Hs.turn (h : Hs w0 M w) (i : Nat) (e : M[i]? = some (g, o)) (t : Turn g o' w w1) : Hs w0 (M.set i (g, o')) w1 := by
  obtain ⟨R, h1, h2⟩ := ob_split M i _ e (g, o')
  exact ((h.perm h1).turnHead t).perm h2.symm

theorem turn_cell {c : Array Value} {T : TypeId} (h : w.heap[g]? = some (.cells c T (0, 0))) (i : Nat) (v : Value) : Turn g (.cells (c.setIfInBounds i v) T (0, 0)) w (w.setCell ⟨g, i, none⟩ v) :=
  ⟨heap_setCell_same w g i _ _ v h, fun j hj => heap_setCell_other w _ j _ hj, by simp [World.setCell], rfl, rfl, rfl, Nat.le_refl _⟩
theorem turn_obj (h : w.heap[g]? = some o) (o' : Obj) : Turn g o' w { w with heap := w.heap.setIfInBounds g o' } :=
  ⟨by simp [hs_lt h], fun k hk => by simp [Array.getElem?_setIfInBounds, Ne.symm hk], by simp, rfl, rfl, rfl, Nat.le_refl _⟩
theorem cell_own {c : Array Value} {T : TypeId} {f : Nat × Nat} (h : w.heap[g]? = some (.cells c T f)) (i : Nat) : w.cell? ⟨g, i, none⟩ = c[i]? := by simp [World.cell?, h]
theorem froz_own {c : Array Value} {T : TypeId} (h : w.heap[g]? = some (.cells c T (0, 0))) (i : Nat) : w.frozen? ⟨g, i, none⟩ = false := by simp [World.frozen?, h]
end

/-- Where the next cell that a step touches stands. -/
inductive Src where
  | own (j off : Nat)
  | ownp (j off : Nat) (v : Value)
  | out (a : Addr) (v : Value)
  | obj (j : Nat)

structure Mst where
  L : List Ob
  src : List Src
  k : Nat

structure Res (α : Type) where
  a : α
  m : Mst
  rq : List Prop
  tr : List (Addr × Addr)

def Res.note {α : Type} (p : List Prop) (t : List (Addr × Addr)) : Option (Res α) → Option (Res α)
  | some r => some { r with rq := p ++ r.rq, tr := t ++ r.tr }
  | none => none

def isCells : Obj → Bool
  | .cells .. => true
  | _ => false

/-- What a step does, over the blocks L: 'src' says where its cells stand. -/
def evS (q : Bool) (P : Program) (w0 : World) (γ : Nat → Nat) {α : Type} : Sem α → Mst → Option (Res α)
  | .pure a, m => some ⟨a, m, [], []⟩
  | .load _ a k, m => match m.src with
    | .own j off :: s => match m.L[j]? with
      | some (g, .cells c _ _) => match c.toList[off]? with
        | some v => Res.note [] [(a, ⟨g, off, none⟩)] (evS q P w0 γ (k v) { m with src := s })
        | none => none
      | _ => none
    | .ownp j off v :: s => match m.L[j]? with
      | some (g, .cells c _ _) => Res.note [c[off]? = some v] [(a, ⟨g, off, none⟩)] (evS q P w0 γ (k v) { m with src := s })
      | _ => none
    | .out b v :: s => Res.note [w0.cell? b = some v] [(a, b)] (evS q P w0 γ (k v) { m with src := s })
    | _ => none
  | .store _ a v k, m => if v.oneCell' && !q then match m.src with
    | .own j off :: s => match m.L[j]? with
      | some (g, .cells c T (0, 0)) => if off < c.toList.length then Res.note [] [(a, ⟨g, off, none⟩)] (evS q P w0 γ k { m with L := m.L.set j (g, .cells (c.setIfInBounds off v) T (0, 0)), src := s }) else none
      | _ => none
    | .ownp j off _ :: s => match m.L[j]? with
      | some (g, .cells c T (0, 0)) => Res.note [off < c.size] [(a, ⟨g, off, none⟩)] (evS q P w0 γ k { m with L := m.L.set j (g, .cells (c.setIfInBounds off v) T (0, 0)), src := s })
      | _ => none
    | _ => none else none
  | .new o k, m => if q then none else evS q P w0 γ (k (γ m.k)) { m with L := (γ m.k, o) :: m.L, k := m.k + 1 }
  | .program k, m => evS q P w0 γ (k P) m
  | .mark _ k, m => evS q P w0 γ k m
  | .choose qu k, m => if qu.forced then evS q P w0 γ (k 0) m else none
  | .getObj r k, m => match m.src with
    | .obj j :: s => match m.L[j]? with
      | some (g, o) => if isCells o then none else Res.note [] [(⟨r, 0, none⟩, ⟨g, 0, none⟩)] (evS q P w0 γ (k o) { m with src := s })
      | _ => none
    | _ => none
  | .setObj r o' k, m => if q then none else match m.src with
    | .obj j :: s => match m.L[j]? with
      | some (g, o) => if isCells o then none else Res.note [] [(⟨r, 0, none⟩, ⟨g, 0, none⟩)] (evS q P w0 γ k { m with L := m.L.set j (g, o'), src := s })
      | _ => none
    | _ => none
  | _, _ => none

def AllP : List Prop → Prop
  | [] => True
  | [p] => p
  | p :: l => p ∧ AllP l
theorem allP_mem : ∀ {l : List Prop}, AllP l → ∀ p ∈ l, p
  | [], _, _, h => by cases h
  | [q], h, p, hp => by rcases List.mem_singleton.1 hp with rfl; exact h
  | q :: r :: l, h, p, hp => by
    rcases List.mem_cons.1 hp with rfl | hp
    · exact h.1
    · exact allP_mem h.2 p hp

section
variable {q : Bool} {P : Program} {w0 : World} {γ : Nat → Nat} {B : Nat}
theorem note_some {α : Type} {p : List Prop} {t : List (Addr × Addr)} {x : Option (Res α)} {r : Res α} (h : Res.note p t x = some r) : ∃ r', x = some r' ∧ r.a = r'.a ∧ r.m = r'.m ∧ r.rq = p ++ r'.rq ∧ r.tr = t ++ r'.tr := by
  cases x with
  | none => cases h
  | some r' => simp only [Res.note, Option.some.injEq] at h; subst h; exact ⟨r', rfl, rfl, rfl, rfl, rfl⟩

theorem evS_run {α : Type} : ∀ (s : Sem α) (m : Mst) (r : Res α) (w : World), evS q P w0 γ s m = some r → (∀ p ∈ r.tr, p.1 = p.2) → (∀ p ∈ r.rq, p) → Hs w0 m.L w → (∀ i, γ i = B + i) → w.heap.size = B + m.k →
    ∃ w', s.run P w = .ok r.a w' ∧ Hs w0 r.m.L w' ∧ w'.heap.size = B + r.m.k := by
  intro s
  induction s with
  | pure a =>
    intro m r w h _ _ hs hγ hz
    simp only [evS, Option.some.injEq] at h; subst h
    exact ⟨w, rfl, hs, hz⟩
  | load md a k ih =>
    intro m r w h ht hq hs hγ hz
    simp only [evS] at h
    split at h <;> try cases h
    · rename_i j off s hsrc
      split at h <;> try cases h
      rename_i g c T f hj
      split at h <;> try cases h
      rename_i v hv
      obtain ⟨r', h1, h2, h3, h4, h5⟩ := note_some h
      have ha : a = ⟨g, off, none⟩ := ht (a, _) (by rw [h5]; simp)
      have hc : w.cell? a = some v := by rw [ha, cell_own (hs.row j hj)]; simpa using hv
      obtain ⟨w', e1, e2, e3⟩ := ih v _ r' w h1 (fun p hp => ht p (by rw [h5]; simp [hp])) (fun p hp => hq p (by rw [h4]; simpa using hp)) hs hγ hz
      exact ⟨w', by simp only [Sem.run, hc]; rw [e1, h2], by rw [h3]; exact e2, by rw [h3]; exact e3⟩
    · rename_i j off v s hsrc
      split at h <;> try cases h
      rename_i g c T f hj
      obtain ⟨r', h1, h2, h3, h4, h5⟩ := note_some h
      have ha : a = ⟨g, off, none⟩ := ht (a, _) (by rw [h5]; simp)
      have hv : c[off]? = some v := hq _ (by rw [h4]; simp)
      have hc : w.cell? a = some v := by rw [ha, cell_own (hs.row j hj)]; exact hv
      obtain ⟨w', e1, e2, e3⟩ := ih v _ r' w h1 (fun p hp => ht p (by rw [h5]; simp [hp])) (fun p hp => hq p (by rw [h4]; exact List.mem_append_right _ hp)) hs hγ hz
      exact ⟨w', by simp only [Sem.run, hc]; rw [e1, h2], by rw [h3]; exact e2, by rw [h3]; exact e3⟩
    · rename_i b v s hsrc
      obtain ⟨r', h1, h2, h3, h4, h5⟩ := note_some h
      have ha : a = b := ht (a, b) (by rw [h5]; simp)
      have hv : w0.cell? b = some v := hq _ (by rw [h4]; simp)
      have hlt : b.block < w0.heap.size := by
        rcases Nat.lt_or_ge b.block w0.heap.size with h | h
        · exact h
        · simp [World.cell?, Array.getElem?_eq_none h] at hv
      have hc : w.cell? a = some v := by rw [ha, hs.below.cell hlt]; exact hv
      obtain ⟨w', e1, e2, e3⟩ := ih v _ r' w h1 (fun p hp => ht p (by rw [h5]; simp [hp])) (fun p hp => hq p (by rw [h4]; exact List.mem_append_right _ hp)) hs hγ hz
      exact ⟨w', by simp only [Sem.run, hc]; rw [e1, h2], by rw [h3]; exact e2, by rw [h3]; exact e3⟩
  | store md a v k ih =>
    intro m r w h ht hq hs hγ hz
    simp only [evS] at h
    split at h <;> try cases h
    rename_i h1c
    simp only [Bool.and_eq_true] at h1c
    replace h1c := h1c.1
    have run : ∀ (g off : Nat) (c : Array Value) (T : TypeId), w.heap[g]? = some (.cells c T (0, 0)) → off < c.size → a = ⟨g, off, none⟩ → (Sem.store md a v k).run P w = k.run P (w.setCell a v) := fun g off c T hg ho ha => by
      have hc : w.cell? a = some c[off] := by rw [ha, cell_own hg]; simp [ho]
      have hf : w.frozen? a = false := by rw [ha]; exact froz_own hg off
      cases v <;> simp [Value.oneCell'] at h1c <;> simp [Sem.run, hc, hf]
    split at h <;> try cases h
    · rename_i j off s hsrc
      split at h <;> try cases h
      rename_i g c T hj
      split at h <;> try cases h
      rename_i ho
      obtain ⟨r', h1, h2, h3, h4, h5⟩ := note_some h
      have ha : a = ⟨g, off, none⟩ := ht (a, _) (by rw [h5]; simp)
      have hg := hs.row j hj
      obtain ⟨w', e1, e2, e3⟩ := ih _ r' (w.setCell a v) h1 (fun p hp => ht p (by rw [h5]; simp [hp])) (fun p hp => hq p (by rw [h4]; simpa using hp)) (by rw [ha]; exact hs.turn j hj (turn_cell hg off v)) hγ (by rw [ha, (turn_cell hg off v).size]; exact hz)
      exact ⟨w', by rw [run g off c T hg (by simpa using ho) ha, e1, h2], by rw [h3]; exact e2, by rw [h3]; exact e3⟩
    · rename_i j off u s hsrc
      split at h <;> try cases h
      rename_i g c T hj
      obtain ⟨r', h1, h2, h3, h4, h5⟩ := note_some h
      have ha : a = ⟨g, off, none⟩ := ht (a, _) (by rw [h5]; simp)
      have ho : off < c.size := hq _ (by rw [h4]; simp)
      have hg := hs.row j hj
      obtain ⟨w', e1, e2, e3⟩ := ih _ r' (w.setCell a v) h1 (fun p hp => ht p (by rw [h5]; simp [hp])) (fun p hp => hq p (by rw [h4]; exact List.mem_append_right _ hp)) (by rw [ha]; exact hs.turn j hj (turn_cell hg off v)) hγ (by rw [ha, (turn_cell hg off v).size]; exact hz)
      exact ⟨w', by rw [run g off c T hg ho ha, e1, h2], by rw [h3]; exact e2, by rw [h3]; exact e3⟩
  | new o k ih =>
    intro m r w h ht hq hs hγ hz
    simp only [evS] at h
    split at h <;> try cases h
    have e : γ m.k = w.heap.size := by rw [hγ, hz]
    obtain ⟨w', e1, e2, e3⟩ := ih (γ m.k) _ r (w.alloc o) h ht hq (by simp only [e]; exact hs.cons o) hγ (by simp only [alloc_size, hz]; omega)
    refine ⟨w', ?_, e2, e3⟩
    simp only [Sem.run]
    rw [← e]
    exact e1
  | program k ih =>
    intro m r w h ht hq hs hγ hz
    simp only [evS] at h
    exact ih P m r w h ht hq hs hγ hz
  | mark mk k ih =>
    intro m r w h ht hq hs hγ hz
    simp only [evS] at h
    exact ih m r w h ht hq hs hγ hz
  | choose q k ih =>
    intro m r w h ht hq hs hγ hz
    simp only [evS] at h
    split at h <;> try cases h
    rename_i hf
    obtain ⟨w', e1, e2⟩ := ih 0 m r w h ht hq hs hγ hz
    exact ⟨w', by simp only [Sem.run, hf, if_true]; exact e1, e2⟩
  | getObj rr k ih =>
    intro m r w h ht hq hs hγ hz
    simp only [evS] at h
    split at h <;> try cases h
    split at h <;> try cases h
    rename_i g o hj
    split at h <;> try cases h
    rename_i hnc
    obtain ⟨r', h1, h2, h3, h4, h5⟩ := note_some h
    have ha : rr = g := by have := ht _ (by rw [h5]; exact List.mem_cons_self ..); simpa using this
    have hg := hs.row _ hj
    obtain ⟨w', e1, e2, e3⟩ := ih o _ r' w h1 (fun p hp => ht p (by rw [h5]; simp [hp])) (fun p hp => hq p (by rw [h4]; simpa using hp)) hs hγ hz
    refine ⟨w', ?_, by rw [h3]; exact e2, by rw [h3]; exact e3⟩
    subst ha
    cases o <;> simp [isCells] at hnc <;> simp only [Sem.run, hg] <;> rw [e1, h2]
  | setObj rr o' k ih =>
    intro m r w h ht hq hs hγ hz
    simp only [evS] at h
    split at h <;> try cases h
    split at h <;> try cases h
    split at h <;> try cases h
    rename_i g o hj
    split at h <;> try cases h
    rename_i hnc
    obtain ⟨r', h1, h2, h3, h4, h5⟩ := note_some h
    have ha : rr = g := by have := ht _ (by rw [h5]; exact List.mem_cons_self ..); simpa using this
    have hg := hs.row _ hj
    subst ha
    obtain ⟨w', e1, e2, e3⟩ := ih _ r' { w with heap := w.heap.setIfInBounds rr o' } h1 (fun p hp => ht p (by rw [h5]; simp [hp])) (fun p hp => hq p (by rw [h4]; simpa using hp)) (hs.turn _ hj (turn_obj hg o')) hγ (by rw [(turn_obj hg o').size]; exact hz)
    refine ⟨w', ?_, by rw [h3]; exact e2, by rw [h3]; exact e3⟩
    cases o <;> simp [isCells] at hnc <;> simp only [Sem.run, hg] <;> rw [e1, h2]
  | _ =>
    intro m r w h
    simp only [evS] at h
    try cases h

/-- A quiet step: the world stays. -/
theorem evS_quiet {α : Type} : ∀ (s : Sem α) (m : Mst) (r : Res α), evS true P w0 γ s m = some r → (∀ p ∈ r.tr, p.1 = p.2) → (∀ p ∈ r.rq, p) → r.m.L = m.L ∧ ∀ w, Hs w0 m.L w → s.run P w = .ok r.a w := by
  intro s
  induction s with
  | pure a =>
    intro m r h _ _
    simp only [evS, Option.some.injEq] at h; subst h
    exact ⟨rfl, fun w _ => rfl⟩
  | load md a k ih =>
    intro m r h ht hq
    simp only [evS] at h
    split at h <;> try cases h
    · rename_i j off s hsrc
      split at h <;> try cases h
      rename_i g c T f hj
      split at h <;> try cases h
      rename_i v hv
      obtain ⟨r', h1, h2, h3, h4, h5⟩ := note_some h
      have ha : a = ⟨g, off, none⟩ := ht (a, _) (by rw [h5]; simp)
      obtain ⟨e1, e2⟩ := ih v _ r' h1 (fun p hp => ht p (by rw [h5]; simp [hp])) (fun p hp => hq p (by rw [h4]; simpa using hp))
      refine ⟨by rw [h3]; exact e1, fun w hs => ?_⟩
      have hc : w.cell? a = some v := by rw [ha, cell_own (hs.row j hj)]; simpa using hv
      simp only [Sem.run, hc]
      rw [e2 w hs, h2]
    · rename_i j off v s hsrc
      split at h <;> try cases h
      rename_i g c T f hj
      obtain ⟨r', h1, h2, h3, h4, h5⟩ := note_some h
      have ha : a = ⟨g, off, none⟩ := ht (a, _) (by rw [h5]; simp)
      have hv : c[off]? = some v := hq _ (by rw [h4]; simp)
      obtain ⟨e1, e2⟩ := ih v _ r' h1 (fun p hp => ht p (by rw [h5]; simp [hp])) (fun p hp => hq p (by rw [h4]; exact List.mem_append_right _ hp))
      refine ⟨by rw [h3]; exact e1, fun w hs => ?_⟩
      have hc : w.cell? a = some v := by rw [ha, cell_own (hs.row j hj)]; exact hv
      simp only [Sem.run, hc]
      rw [e2 w hs, h2]
    · rename_i b v s hsrc
      obtain ⟨r', h1, h2, h3, h4, h5⟩ := note_some h
      have ha : a = b := ht (a, b) (by rw [h5]; simp)
      have hv : w0.cell? b = some v := hq _ (by rw [h4]; simp)
      have hlt : b.block < w0.heap.size := by
        rcases Nat.lt_or_ge b.block w0.heap.size with h | h
        · exact h
        · simp [World.cell?, Array.getElem?_eq_none h] at hv
      obtain ⟨e1, e2⟩ := ih v _ r' h1 (fun p hp => ht p (by rw [h5]; simp [hp])) (fun p hp => hq p (by rw [h4]; exact List.mem_append_right _ hp))
      refine ⟨by rw [h3]; exact e1, fun w hs => ?_⟩
      have hc : w.cell? a = some v := by rw [ha, hs.below.cell hlt]; exact hv
      simp only [Sem.run, hc]
      rw [e2 w hs, h2]
  | program k ih =>
    intro m r h ht hq
    simp only [evS] at h
    exact ih P m r h ht hq
  | mark mk k ih =>
    intro m r h ht hq
    simp only [evS] at h
    exact ih m r h ht hq
  | choose q k ih =>
    intro m r h ht hq
    simp only [evS] at h
    split at h <;> try cases h
    rename_i hf
    obtain ⟨e1, e2⟩ := ih 0 m r h ht hq
    exact ⟨e1, fun w hs => by simp only [Sem.run, hf, if_true]; exact e2 w hs⟩
  | getObj rr k ih =>
    intro m r h ht hq
    simp only [evS] at h
    split at h <;> try cases h
    split at h <;> try cases h
    rename_i g o hj
    split at h <;> try cases h
    rename_i hnc
    obtain ⟨r', h1, h2, h3, h4, h5⟩ := note_some h
    have ha : rr = g := by have := ht _ (by rw [h5]; exact List.mem_cons_self ..); simpa using this
    obtain ⟨e1, e2⟩ := ih o _ r' h1 (fun p hp => ht p (by rw [h5]; simp [hp])) (fun p hp => hq p (by rw [h4]; simpa using hp))
    refine ⟨by rw [h3]; exact e1, fun w hs => ?_⟩
    have hg := hs.row _ hj
    subst ha
    cases o <;> simp [isCells] at hnc <;> simp only [Sem.run, hg] <;> rw [e2 w hs, h2]
  | _ =>
    intro m r h
    simp [evS] at h
end
end Go.Proofs.Ytoljahfofkmdaaa

/-! The walker: slots, operations, code. -/
namespace Go.Proofs.Ytoljahfofkmdaaa
open Go Go.RowKit

/-- Slots whose values are known. -/
abbrev Sl := List (Nat × Value)
structure SlR (n : Nat) (D : List Deferred) (l : Sl) (a : Act) : Prop where
  got : ∀ p ∈ l, a.tmps[p.1]? = some p.2
  size : a.tmps.size = n
  defers : a.defers = D

def look (l : Sl) : Operand → Value
  | .tmp t => (l.lookup t).getD undef
  | .const v => v
  | .global g => .pointer (some ⟨g, 0, none⟩)
  | .func f => .func (.func f) #[] #[]
def knownX (l : Sl) : Operand → Bool
  | .tmp t => (l.lookup t).isSome
  | _ => true
def knownO (l : Sl) (o : Oper) : Bool := (match o.op with | .select _ _ => false | .defer _ => false | _ => true) && o.op.operands.toList.all (knownX l)
def putL (d : Option Nat) (v : Value) (l : Sl) : Sl := match d with
  | none => l
  | some t => (t, v) :: l.filter (·.1 != t)
def okD (n : Nat) : Option Nat → Bool
  | none => true
  | some t => Nat.blt t n
def keepL (l : Sl) : List Nat → Option Sl
  | [] => some []
  | t :: ts => match l.lookup t with
    | some v => match keepL l ts with
      | some r => some ((t, v) :: r)
      | none => none
    | none => none

section
variable {n : Nat} {D : List Deferred} {l l' : Sl} {a : Act} {w : World}
theorem lookup_mem : ∀ {l : Sl} {t : Nat} {v : Value}, l.lookup t = some v → (t, v) ∈ l
  | [], _, _, h => by simp at h
  | (s, u) :: l, t, v, h => by
    rw [List.lookup_cons] at h
    split at h
    · rename_i e
      have e1 : t = s := by simpa using e
      obtain rfl := Option.some.inj h
      subst e1
      exact List.mem_cons_self ..
    · exact List.mem_cons_of_mem _ (lookup_mem h)
theorem look_eval (h : SlR n D l a) {x : Operand} (hx : knownX l x = true) : a.eval x = look l x := by
  cases x with
  | tmp t =>
    obtain ⟨v, hv⟩ := Option.isSome_iff_exists.1 hx
    have := h.got _ (lookup_mem hv)
    simp only at this
    simp [Act.eval, look, hv, this]
  | const v => rfl
  | global g => rfl
  | func f => rfl
theorem look_exec (h : SlR n D l a) {o : Oper} (ho : knownO l o = true) : execOp a.eval o = execOp (look l) o := by
  simp only [knownO, Bool.and_eq_true] at ho
  refine execOp_congr o (fun cs b e => by rw [e] at ho; cases ho.1) fun x hx => look_eval h ?_
  exact List.all_eq_true.1 ho.2 x (by simpa using hx)
theorem SlR.put (h : SlR n D l a) {d : Option Nat} (hd : okD n d = true) (v : Value) : SlR n D (putL d v l) (a.put d v) := by
  cases d with
  | none => exact h
  | some t =>
    have ht : t < a.tmps.size := by rw [h.size]; exact Nat.blt_eq ▸ hd
    refine ⟨fun p hp => ?_, by simp [Act.put, h.size], h.defers⟩
    rcases List.mem_cons.1 hp with rfl | hp
    · simp [Act.put, ht]
    · obtain ⟨h1, h2⟩ := List.mem_filter.1 hp
      have hne : p.1 ≠ t := by simpa using h2
      simp only [Act.put]
      rw [Array.getElem?_setIfInBounds_ne (Ne.symm hne)]
      exact h.got p h1
theorem SlR.sub (h : SlR n D l a) (hs : ∀ p ∈ l', p ∈ l) : SlR n D l' a := ⟨fun p hp => h.got p (hs p hp), h.size, h.defers⟩
theorem keepL_mem : ∀ {ts : List Nat} {l' : Sl}, keepL l ts = some l' → ∀ p ∈ l', p ∈ l
  | [], l', h, p, hp => by simp [keepL] at h; subst h; cases hp
  | t :: ts, l', h, p, hp => by
    simp only [keepL] at h
    split at h <;> try cases h
    rename_i v hv
    split at h <;> try cases h
    rename_i r hr
    rcases List.mem_cons.1 hp with rfl | hp
    · exact lookup_mem hv
    · exact keepL_mem hr p hp
end

/-- Which of an operation's answers are told. -/
inductive Hint where
  | go (s : List Src)
  | yes | no
  | fit
  | at (b o n : Nat)
  | is (s : List Src) (v : Value)
  | eqs (b : Bool)
  | sl (v : Value)

/-- A comparison of two values, run. -/
def EqRun (P : Program) (op : BinOp) (T : TypeId) (x y : Operand) (a b : Value) (r : Bool) : Prop := ∀ w, (do eqGuard op T x y a b; binOp op T a b : Sem Value).run P w = .ok (.bool r) w

/-- A slice expression, run. -/
def SlRun (P : Program) (T : TypeId) (x : Value) (lo hi mx : Option Value) (v : Value) : Prop := ∀ w, (Instr.sliceAt T x lo hi mx).run P w = .ok v w

def cmpP (op : BinOp) (a b : Int) : Prop := match op with
  | .eql => a = b
  | .neq => a ≠ b
  | .lss => a < b
  | .leq => a ≤ b
  | .gtr => a > b
  | .geq => a ≥ b
  | _ => False
def isCmp : BinOp → Bool
  | .eql | .neq | .lss | .leq | .gtr | .geq => true
  | _ => false
def kmin : IntKind → Int
  | .i8 => -128 | .i16 => -32768 | .i32 => -2147483648 | .i64 => -9223372036854775808 | _ => 0
def kmax : IntKind → Int
  | .i8 => 127 | .i16 => 32767 | .i32 => 2147483647 | .i64 => 9223372036854775807 | .u8 => 255 | .u16 => 65535 | .u32 => 4294967295 | .u64 => 18446744073709551615
def Fit (k : IntKind) (n : Int) : Prop := kmin k ≤ n ∧ n ≤ kmax k
theorem wrap_fit {k : IntKind} {n : Int} (h : Fit k n) : k.wrap n = n := by
  unfold Fit at h
  cases k <;> simp only [kmin, kmax] at h <;> simp only [IntKind.wrap, IntKind.bits, IntKind.signed] <;> simp <;> omega

structure St where
  l : Sl
  L : List Ob
  k : Nat
structure OutE where
  s : St
  rq : List Prop
  tr : List (Addr × Addr)

def arithI (op : BinOp) (a b : Int) : Option Int := match op with
  | .add => some (a + b)
  | .sub => some (a - b)
  | .mul => some (a * b)
  | _ => none

/-- One operation. -/
def evOp (q : Bool) (P : Program) (w0 : World) (γ : Nat → Nat) (n : Nat) (o : Oper) (h : Hint) (s : St) : Option OutE :=
  if okD n o.dst && knownO s.l o then match h with
    | .go src => match evS q P w0 γ (execOp (look s.l) o) ⟨s.L, src, s.k⟩ with
      | some r => match r.a with
        | .value v => some ⟨⟨putL o.dst v s.l, r.m.L, r.m.k⟩, r.rq, r.tr⟩
        | .skip => some ⟨⟨putL o.dst undef s.l, r.m.L, r.m.k⟩, r.rq, r.tr⟩
        | _ => none
      | none => none
    | .is src v => match evS q P w0 γ (execOp (look s.l) o) ⟨s.L, src, s.k⟩ with
      | some r => match r.a with
        | .value u => some ⟨⟨putL o.dst v s.l, r.m.L, r.m.k⟩, (u = v) :: r.rq, r.tr⟩
        | _ => none
      | none => none
    | .eqs b => match o.op with
      | .binOp op T x y _ => some ⟨⟨putL o.dst (.bool b) s.l, s.L, s.k⟩, [EqRun P op T x y (look s.l x) (look s.l y) b], []⟩
      | _ => none
    | .sl v => match o.op with
      | .slice T x lo hi mx => some ⟨⟨putL o.dst v s.l, s.L, s.k⟩, [SlRun P T (look s.l x) (lo.map (look s.l)) (hi.map (look s.l)) (mx.map (look s.l)) v], []⟩
      | _ => none
    | .fit => match o.op with
      | .convert S T x => match P.underlying T, look s.l x with
        | some (.int k), .int _ c => if (P.underlying S).isSome = true then some ⟨⟨putL o.dst (.int k c) s.l, s.L, s.k⟩, [Fit k c], []⟩ else none
        | _, _ => none
      | .binOp op _ x y _ => match look s.l x, look s.l y with
        | .int k a, .int k' b => if k = k' then match arithI op a b with
          | some c => some ⟨⟨putL o.dst (.int k c) s.l, s.L, s.k⟩, [Fit k c], []⟩
          | none => none else none
        | _, _ => none
      | _ => none
    | .at b of n => match o.op with
      | .indexAddr T x y => match P.underlying T, look s.l x, look s.l y with
        | some (.slice e), .slice p len _, .int _ i => match P.info? e with
          | some inf => some ⟨⟨putL o.dst (.pointer (some ⟨b, of + n * inf.size, none⟩)) s.l, s.L, s.k⟩, [p = some ⟨b, of, none⟩, i = n, n < len], []⟩
          | none => none
        | _, _, _ => none
      | _ => none
    | .yes => match o.op with
      | .binOp op _ x y _ => match look s.l x, look s.l y with
        | .int k a, .int k' b => if k = k' ∧ isCmp op = true then some ⟨⟨putL o.dst (.bool true) s.l, s.L, s.k⟩, [cmpP op a b], []⟩ else none
        | _, _ => none
      | _ => none
    | .no => match o.op with
      | .binOp op _ x y _ => match look s.l x, look s.l y with
        | .int k a, .int k' b => if k = k' ∧ isCmp op = true then some ⟨⟨putL o.dst (.bool false) s.l, s.L, s.k⟩, [¬ cmpP op a b], []⟩ else none
        | _, _ => none
      | _ => none
  else none

section
variable {q : Bool} {P : Program} {w0 w : World} {γ : Nat → Nat} {B n : Nat} {D : List Deferred} {l : Sl} {a : Act} {o : Oper}

theorem run_cmp {ρ : Operand → Value} {op : BinOp} {T U : TypeId} {x y : Operand} {k : IntKind} {p q : Int} (ho : o.op = .binOp op T x y U) (hx : ρ x = .int k p) (hy : ρ y = .int k q) (hc : isCmp op = true) (b : Bool) (hb : if b then cmpP op p q else ¬ cmpP op p q) (w : World) :
    (execOp ρ o).run P w = .ok (.value (.bool b)) w := by
  have e : binOp op T (.int k p) (.int k q) = Op.intCmp op p q := by
    cases op <;> simp [isCmp] at hc <;> simp [binOp]
  have g : (eqGuard op T x y (.int k p) (.int k q)) = (pure () : Sem Unit) := by
    unfold eqGuard
    cases op <;> simp [isCmp] at hc <;> simp
  unfold execOp
  simp only [ho, hx, hy, e, g]
  cases op <;> simp [isCmp] at hc <;> cases b <;> simp [cmpP] at hb <;> simp [Op.intCmp, hb] <;> omega

theorem run_arith {ρ : Operand → Value} {op : BinOp} {T U : TypeId} {x y : Operand} {k : IntKind} {p q c : Int} (ho : o.op = .binOp op T x y U) (hx : ρ x = .int k p) (hy : ρ y = .int k q) (hc : arithI op p q = some c) (hf : Fit k c) (w : World) :
    (execOp ρ o).run P w = .ok (.value (.int k c)) w := by
  have g : (eqGuard op T x y (.int k p) (.int k q)) = (pure () : Sem Unit) := by
    unfold eqGuard
    cases op <;> simp [arithI] at hc <;> simp
  unfold execOp
  simp only [ho, hx, hy, g]
  cases op <;> simp [arithI] at hc <;> subst hc <;> simp [binOp, Op.intArith, wrap_fit hf]

theorem run_at {ρ : Operand → Value} {T e : TypeId} {x y : Operand} {p : Option Addr} {len cap b of m : Nat} {k : IntKind} {i : Int} {inf : TypeInfo} (ho : o.op = .indexAddr T x y) (hx : ρ x = .slice p len cap) (hy : ρ y = .int k i) (hu : P.underlying T = some (.slice e)) (hi : P.info? e = some inf)
    (h1 : p = some ⟨b, of, none⟩) (h2 : i = m) (h3 : m < len) (w : World) : (execOp ρ o).run P w = .ok (.value (.pointer (some ⟨b, of + m * inf.size, none⟩))) w := by
  subst h1 h2
  unfold execOp
  have ha : (Addr.add ⟨b, of, none⟩ (m * inf.size)) = ⟨b, of + m * inf.size, none⟩ := by
    unfold Addr.add; split
    · rename_i h; rw [h]; rfl
    · rfl
  simp [ho, hx, hy, Instr.indexAt, asIntOf, underlying, hu, sizeOf, typeInfo, hi, h3, ha]

theorem run_conv {ρ : Operand → Value} {S T : TypeId} {x : Operand} {k k' : IntKind} {c : Int} (ho : o.op = .convert S T x) (hS : ∃ d, P.underlying S = some d) (hT : P.underlying T = some (.int k)) (hx : ρ x = .int k' c) (hf : Fit k c) (w : World) :
    (execOp ρ o).run P w = .ok (.value (.int k c)) w := by
  obtain ⟨d, hS⟩ := hS
  unfold execOp
  simp [ho, hx, convert, underlying, hS, hT, Conv.intToInt, wrap_fit hf]

theorem run_eqs {ρ : Operand → Value} {op : BinOp} {T U : TypeId} {x y : Operand} {b : Bool} (ho : o.op = .binOp op T x y U) (h : EqRun P op T x y (ρ x) (ρ y) b) (w : World) : (execOp ρ o).run P w = .ok (.value (.bool b)) w := by
  have := h w
  unfold execOp
  simp only [ho]
  rw [Sem.run_bind, this]
  rfl

theorem run_sl {ρ : Operand → Value} {T : TypeId} {x : Operand} {lo hi mx : Option Operand} {v : Value} (ho : o.op = .slice T x lo hi mx) (h : SlRun P T (ρ x) (lo.map ρ) (hi.map ρ) (mx.map ρ) v) (w : World) : (execOp ρ o).run P w = .ok (.value v) w := by
  have := h w
  unfold execOp
  simp only [ho]
  rw [Sem.run_bind, this]
  rfl

theorem evOp_run {h : Hint} {s : St} {r : OutE} (he : evOp q P w0 γ n o h s = some r) (ha : SlR n D s.l a) (ht : ∀ p ∈ r.tr, p.1 = p.2) (hq : ∀ p ∈ r.rq, p) (hs : Hs w0 s.L w) (hγ : ∀ i, γ i = B + i) (hz : w.heap.size = B + s.k) :
    ∃ w' v nx, (execOp a.eval o).run P w = .ok nx w' ∧ (nx = .value v ∨ nx = .skip ∧ v = undef) ∧ SlR n D r.s.l (a.put o.dst v) ∧ Hs w0 r.s.L w' ∧ w'.heap.size = B + r.s.k := by
  simp only [evOp] at he
  split at he <;> try cases he
  rename_i hk
  simp only [Bool.and_eq_true] at hk
  rw [look_exec ha hk.2]
  split at he
  · rename_i src
    split at he <;> try cases he
    rename_i q hq1
    split at he <;> try cases he
    · rename_i v hv
      obtain ⟨w', e1, e2, e3⟩ := evS_run _ _ q w hq1 ht hq hs hγ hz
      exact ⟨w', v, .value v, by rw [e1, hv], .inl rfl, ha.put hk.1 v, e2, e3⟩
    · rename_i hv
      obtain ⟨w', e1, e2, e3⟩ := evS_run _ _ q w hq1 ht hq hs hγ hz
      exact ⟨w', undef, .skip, by rw [e1, hv], .inr ⟨rfl, rfl⟩, ha.put hk.1 undef, e2, e3⟩
  · rename_i src v
    split at he <;> try cases he
    rename_i q hq1
    split at he <;> try cases he
    rename_i u hv
    obtain ⟨w', e1, e2, e3⟩ := evS_run _ _ q w hq1 ht (fun p hp => hq p (List.mem_cons_of_mem _ hp)) hs hγ hz
    have huv : u = v := hq _ (List.mem_cons_self ..)
    exact ⟨w', v, .value v, by rw [e1, hv, huv], .inl rfl, ha.put hk.1 v, e2, e3⟩
  · rename_i b
    split at he <;> try cases he
    rename_i op T x y U hop
    exact ⟨w, _, _, run_eqs hop (hq _ (List.mem_singleton.2 rfl)) w, .inl rfl, ha.put hk.1 _, hs, hz⟩
  · rename_i v
    split at he <;> try cases he
    rename_i T x lo hi mx hop
    exact ⟨w, _, _, run_sl hop (hq _ (List.mem_singleton.2 rfl)) w, .inl rfl, ha.put hk.1 _, hs, hz⟩
  · split at he <;> try cases he
    · rename_i S T x hop
      split at he <;> try cases he
      rename_i k k' c hT hx
      split at he <;> try cases he
      rename_i hS
      exact ⟨w, _, _, run_conv hop (Option.isSome_iff_exists.1 hS) hT hx (hq _ (List.mem_singleton.2 rfl)) w, .inl rfl, ha.put hk.1 _, hs, hz⟩
    rename_i op T x y U hop
    split at he <;> try cases he
    rename_i k p k' q hx hy
    split at he <;> try cases he
    rename_i hkk
    split at he <;> try cases he
    rename_i c hc
    subst hkk
    exact ⟨w, _, _, run_arith hop hx hy hc (hq _ (List.mem_singleton.2 rfl)) w, .inl rfl, ha.put hk.1 _, hs, hz⟩
  · rename_i b of m
    split at he <;> try cases he
    rename_i T x y hop
    split at he <;> try cases he
    rename_i e p len cap k i hu hx hy
    split at he <;> try cases he
    rename_i inf hi
    exact ⟨w, _, _, run_at hop hx hy hu hi (hq _ (by simp)) (hq _ (by simp)) (hq _ (by simp)) w, .inl rfl, ha.put hk.1 _, hs, hz⟩
  · split at he <;> try cases he
    rename_i op T x y U hop
    split at he <;> try cases he
    rename_i k p k' q hx hy
    split at he <;> try cases he
    rename_i hkk
    obtain ⟨rfl, hc⟩ := hkk
    exact ⟨w, _, _, run_cmp hop hx hy hc true (hq _ (List.mem_singleton.2 rfl)) w, .inl rfl, ha.put hk.1 _, hs, hz⟩
  · split at he <;> try cases he
    rename_i op T x y U hop
    split at he <;> try cases he
    rename_i k p k' q hx hy
    split at he <;> try cases he
    rename_i hkk
    obtain ⟨rfl, hc⟩ := hkk
    exact ⟨w, _, _, run_cmp hop hx hy hc false (hq _ (List.mem_singleton.2 rfl)) w, .inl rfl, ha.put hk.1 _, hs, hz⟩
end

theorem evOp_known {q : Bool} {P : Program} {w0 : World} {γ : Nat → Nat} {n : Nat} {o : Oper} {h : Hint} {s : St} {r : OutE} (he : evOp q P w0 γ n o h s = some r) : ∀ c, o.op ≠ .defer c := by
  simp only [evOp] at he
  split at he <;> try cases he
  rename_i hk
  simp only [Bool.and_eq_true, knownO] at hk
  intro c e
  rw [e] at hk
  exact absurd hk.2.1 (by simp)

/-- Does an operation's guard let it run? -/
def wantL (all : List Oper) (l : Sl) (o : Oper) : Option Bool := match o.guard with
  | none => some true
  | some (j, b) => match all[j]? with
    | some oj => match oj.dst with
      | some d => match l.lookup d with
        | some (.bool x) => some (x == b)
        | some (.tuple _) => some false
        | _ => none
      | none => none
    | none => none
theorem wantL_spec {all : List Oper} {n : Nat} {D : List Deferred} {l : Sl} {a : Act} {o : Oper} {b : Bool} (h : SlR n D l a) (hw : wantL all l o = some b) : Region.wanted o (yielded all.toArray a.tmps) = b := by
  unfold wantL at hw
  unfold Region.wanted
  cases hg : o.guard with
  | none => simp [hg] at hw; simp [hw]
  | some jb =>
    obtain ⟨j, c⟩ := jb
    simp only [hg] at hw
    split at hw <;> try cases hw
    rename_i oj hj
    split at hw <;> try cases hw
    rename_i d hd
    split at hw <;> try cases hw
    · rename_i x hx
      have := h.got _ (lookup_mem hx)
      simp only at this
      simp [yielded, hj, hd, this]
    · rename_i x hx
      have := h.got _ (lookup_mem hx)
      simp only at this
      simp [yielded, hj, hd, this]

/-- A stretch of operations, the first of them number i. -/
def evOps (q : Bool) (P : Program) (w0 : World) (γ : Nat → Nat) (n : Nat) (all : List Oper) (hs : List (Nat × Hint)) : Nat → List Oper → St → Option OutE
  | _, [], s => some ⟨s, [], []⟩
  | i, o :: os, s => match wantL all s.l o with
    | none => none
    | some false => if okD n o.dst then evOps q P w0 γ n all hs (i + 1) os { s with l := putL o.dst undef s.l } else none
    | some true => match evOp q P w0 γ n o ((hs.lookup i).getD (.go [])) s with
      | none => none
      | some r => match evOps q P w0 γ n all hs (i + 1) os r.s with
        | none => none
        | some r' => some ⟨r'.s, r.rq ++ r'.rq, r.tr ++ r'.tr⟩

/-- What stands behind a piece of code. -/
inductive Fr where
  | seq (c : Code)
  | block (id : Nat)
  | loop (I : Act → World → Prop)

/-- No fence; in a round of loop rd, or in none. -/
def fen (rd : Option Nat) : Fence := { Fence.wide with round := rd }
theorem fen_calls {rd : Option Nat} {m : Nat} {P : Program} {f : FuncId} {args : Array Value} {w : World} {R : Ending → World → Prop} (h : Calls P f args w R) : CallsIn (fen rd) m P f args w R := (callsIn_wide (n := m)).2 h

def postF (rd : Option Nat) (P : Program) (R : Exit → Act → World → Prop) : List Fr → Exit → Act → World → Prop
  | [] => R
  | .seq c :: k => Exit.then (c.wpIn (fen rd) 0 P (postF rd P R k)) (postF rd P R k)
  | .block id :: k => Exit.inBlock id (postF rd P R k)
  | .loop I :: k => Exit.then I (postF rd P R k)

structure Env where
  P : Program
  rd : Option Nat
  D : List Deferred
  R : Exit → Act → World → Prop
  w0 : World
  n : Nat

structure At (E : Env) (k : List Fr) (c : Code) (l : Sl) (L : List Ob) : Prop where
  out : ∀ a w, SlR E.n E.D l a → Hs E.w0 L w → c.wpIn (fen E.rd) 0 E.P (postF E.rd E.P E.R k) a w
structure Ops (E : Env) (k : List Fr) (all : List Oper) (os : List Oper) (i : Nat) (l : Sl) (L : List Ob) : Prop where
  out : ∀ a w, SlR E.n E.D l a → Hs E.w0 L w → wpListIn (fen E.rd) 0 E.P all.toArray (postF E.rd E.P E.R k) os a w
structure Done (E : Env) (k : List Fr) (l : Sl) (L : List Ob) : Prop where
  out : ∀ a w, SlR E.n E.D l a → Hs E.w0 L w → postF E.rd E.P E.R k .normal a w
structure Left (E : Env) (k : List Fr) (id : Nat) (l : Sl) (L : List Ob) : Prop where
  out : ∀ a w, SlR E.n E.D l a → Hs E.w0 L w → postF E.rd E.P E.R k (.exit id) a w

section
variable {E : Env} {k : List Fr} {l : Sl} {L : List Ob}
theorem at_seq {a b : Code} (h : At E (.seq b :: k) a l L) : At E k (.seq a b) l L := ⟨fun _ _ ha hw => wpIn_seq (h.out _ _ ha hw)⟩
theorem at_block {id : Nat} {c : Code} (h : At E (.block id :: k) c l L) : At E k (.block id c) l L := ⟨fun _ _ ha hw => wpIn_block (h.out _ _ ha hw)⟩
theorem at_skip (h : Done E k l L) : At E k .skip l L := ⟨fun _ _ ha hw => wpIn_skip (h.out _ _ ha hw)⟩
theorem at_exit {id : Nat} (h : Left E k id l L) : At E k (.exit id) l L := ⟨fun _ _ ha hw => wpIn_exit (h.out _ _ ha hw)⟩
theorem done_seq {c : Code} (h : At E k c l L) : Done E (.seq c :: k) l L := ⟨fun _ _ ha hw => h.out _ _ ha hw⟩
theorem done_block {id : Nat} (h : Done E k l L) : Done E (.block id :: k) l L := ⟨fun _ _ ha hw => h.out _ _ ha hw⟩
theorem done_loop {I : Act → World → Prop} (h : ∀ a w, SlR E.n E.D l a → Hs E.w0 L w → I a w) : Done E (.loop I :: k) l L := ⟨fun _ _ ha hw => h _ _ ha hw⟩
theorem left_seq {c : Code} {id : Nat} (h : Left E k id l L) : Left E (.seq c :: k) id l L := ⟨fun _ _ ha hw => h.out _ _ ha hw⟩
theorem left_loop {I : Act → World → Prop} {id : Nat} (h : Left E k id l L) : Left E (.loop I :: k) id l L := ⟨fun _ _ ha hw => h.out _ _ ha hw⟩
theorem left_on {id id' : Nat} (hne : (id' == id) = false) (h : Left E k id' l L) : Left E (.block id :: k) id' l L := ⟨fun _ _ ha hw => by
  have hne' : id' ≠ id := by simpa using hne
  simpa [postF, Exit.inBlock, hne'] using h.out _ _ ha hw⟩
theorem left_here {id : Nat} (h : Done E k l L) : Left E (.block id :: k) id l L := ⟨fun _ _ ha hw => by simpa [postF, Exit.inBlock] using h.out _ _ ha hw⟩
/-- The exit's frames, all at once. -/
def popF (id : Nat) : List Fr → Option (List Fr)
  | [] => none
  | .seq _ :: k => popF id k
  | .loop _ :: k => popF id k
  | .block id' :: k => if id == id' then some k else popF id k
theorem left_pop {id : Nat} {k' : List Fr} (h : Done E k' l L) : ∀ {k : List Fr}, popF id k = some k' → Left E k id l L
  | [], e => by cases e
  | .seq c :: k, e => left_seq (left_pop h e)
  | .loop I :: k, e => left_loop (left_pop h e)
  | .block id' :: k, e => by
    simp only [popF] at e
    split at e
    · rename_i hid
      have : id = id' := by simpa using hid
      subst this
      obtain rfl := Option.some.inj e
      exact left_here h
    · rename_i hid
      exact left_on (by simpa using hid) (left_pop h e)
theorem at_leave {id : Nat} (k' : List Fr) (e : popF id k = some k') (h : Done E k' l L) : At E k (.exit id) l L := at_exit (left_pop h e)
theorem post_ret {rd : Option Nat} {P : Program} {R : Exit → Act → World → Prop} {a : Act} {w : World} (h : R .ret a w) : ∀ k, postF rd P R k .ret a w
  | [] => h
  | .seq _ :: k => post_ret h k
  | .block _ :: k => post_ret h k
  | .loop _ :: k => post_ret h k
theorem at_ret (h : ∀ a w, SlR E.n E.D l a → Hs E.w0 L w → E.R .ret a w) : At E k .ret l L := ⟨fun _ _ ha hw => wpIn_ret (post_ret (h _ _ ha hw) k)⟩
theorem at_true {c : Operand} {x y : Code} (hk : (knownX l c, look l c) = (true, .bool true)) (h : At E k x l L) : At E k (.cond c x y) l L :=
  ⟨fun _ _ ha hw => wpIn_cond_true (by obtain ⟨h1, h2⟩ := Prod.mk.inj hk; rw [look_eval ha h1, h2]) (h.out _ _ ha hw)⟩
theorem at_false {c : Operand} {x y : Code} (hk : (knownX l c, look l c) = (true, .bool false)) (h : At E k y l L) : At E k (.cond c x y) l L :=
  ⟨fun _ _ ha hw => wpIn_cond_false (by obtain ⟨h1, h2⟩ := Prod.mk.inj hk; rw [look_eval ha h1, h2]) (h.out _ _ ha hw)⟩
theorem at_ops {id : Nat} {all : List Oper} (h : Ops E k all all 0 l L) : At E k (.region id all.toArray false) l L := ⟨fun _ _ ha hw => wpIn_region_lit (h.out _ _ ha hw)⟩
theorem ops_nil {all : List Oper} {i : Nat} (h : Done E k l L) : Ops E k all [] i l L := ⟨fun _ _ ha hw => h.out _ _ ha hw⟩

theorem evOps_run {all : List Oper} {hs : List (Nat × Hint)} {γ : Nat → Nat} {B : Nat} {Q : Exit → Act → World → Prop} (rest : List Oper) (hγ : ∀ i, γ i = B + i) : ∀ (os : List Oper) (i : Nat) (s : St) (r : OutE) (a : Act) (w : World), evOps false E.P E.w0 γ E.n all hs i os s = some r →
    SlR E.n E.D s.l a → (∀ p ∈ r.tr, p.1 = p.2) → (∀ p ∈ r.rq, p) → Hs E.w0 s.L w → w.heap.size = B + s.k →
    (∀ a' w', SlR E.n E.D r.s.l a' → Hs E.w0 r.s.L w' → wpListIn (fen E.rd) 0 E.P all.toArray Q rest a' w') → wpListIn (fen E.rd) 0 E.P all.toArray Q (os ++ rest) a w
  | [], i, s, r, a, w, h, ha, _, _, hw, _, hK => by
    simp only [evOps, Option.some.injEq] at h; subst h
    exact hK a w ha hw
  | o :: os, i, s, r, a, w, h, ha, ht, hq, hw, hz, hK => by
    simp only [evOps] at h
    split at h <;> try cases h
    · rename_i hwant
      split at h <;> try cases h
      rename_i hd
      have hg := wantL_spec ha hwant
      rw [List.cons_append]
      unfold wpListIn
      rw [if_neg (by simp [hg])]
      refine ⟨fun _ _ => trivial, ?_⟩
      exact evOps_run rest hγ os _ _ r _ w h (ha.put hd undef) ht hq hw hz hK
    · rename_i hwant
      split at h <;> try cases h
      rename_i q hev
      split at h <;> try cases h
      rename_i q' hev'
      have hg := wantL_spec ha hwant
      obtain ⟨w', v, nx, e1, e2, e3, e4, e5⟩ := evOp_run (a := a) (w := w) hev ha (fun p hp => ht p (List.mem_append_left _ hp)) (fun p hp => hq p (List.mem_append_left _ hp)) hw hγ hz
      have go := evOps_run rest hγ os _ q.s q' (a.put o.dst v) w' hev' e3 (fun p hp => ht p (List.mem_append_right _ hp)) (fun p hp => hq p (List.mem_append_right _ hp)) e4 e5 hK
      rw [List.cons_append]
      refine wpListIn_step fun K hKK => ?_
      rw [if_pos hg]
      refine ⟨fun _ _ => trivial, ?_⟩
      rw [Oper.semAt_eq _ _ _ (evOp_known hev), e1]
      rcases e2 with rfl | ⟨rfl, rfl⟩
      · exact hKK _ _ go
      · exact hKK _ _ go

/-- What is kept of a reckoned stretch. -/
def seen (ts : List Nat) : Option OutE → Option (Sl × List Ob × List Prop)
  | some r => match keepL r.s.l ts with
    | some l => some (l, r.s.L, r.rq)
    | none => none
  | none => none
def trL : Option OutE → List Addr
  | some r => r.tr.map (·.1)
  | none => []
def trR : Option OutE → List Addr
  | some r => r.tr.map (·.2)
  | none => []
theorem tr_eq : ∀ {t : List (Addr × Addr)}, t.map (·.1) = t.map (·.2) → ∀ p ∈ t, p.1 = p.2
  | [], _, p, hp => by cases hp
  | x :: t, h, p, hp => by
    simp only [List.map_cons, List.cons.injEq] at h
    rcases List.mem_cons.1 hp with rfl | hp
    · exact h.1
    · exact tr_eq h.2 p hp

end
end Go.Proofs.Ytoljahfofkmdaaa

/-! The class of worlds of such a region: a list of rows that stand, and the rows of the boxes and calls that have come up. -/
namespace Go.Proofs.Ytoljahfofkmdaaa
open Go Go.RowKit

theorem below_two {B : Nat} {w0 w w1 : World} (h : Below B w0 w) (hB : B ≤ w0.heap.size) (h1 : Below w.heap.size w w1) : Below B w0 w1 := h.trans (h1.mono (Nat.le_trans hB h.size))

/-- A row: its block, its cells, its type. -/
abbrev Rw := Nat × Array Value × TypeId

/-- Rows that stand, in blocks apart, made since w0; what was there in w0 is untouched. -/
structure Has (w0 : World) (M : List Rw) (w : World) : Prop where
  rows : ∀ r ∈ M, IsR w r.1 r.2.1 r.2.2
  low : ∀ r ∈ M, w0.heap.size ≤ r.1
  apart : (M.map (·.1)).Nodup
  below : Below w0.heap.size w0 w

section
variable {w0 w w1 : World} {M M' : List Rw} {g : Nat} {cs cs' : Array Value} {t t' : TypeId}
theorem Has.start (w : World) : Has w [] w := ⟨fun _ h => (by cases h), fun _ h => (by cases h), by simp, Below.refl _ _⟩
theorem Has.row (h : Has w0 M w) (i : Nat) (e : M[i]? = some (g, cs, t)) : IsR w g cs t := h.rows _ (List.mem_of_getElem? e)
theorem Has.kept (h : Has w0 M w) (hb : Below w.heap.size w w1) : Has w0 M w1 :=
  ⟨fun r hr => (h.rows r hr).kept hb, h.low, h.apart, below_two h.below (Nat.le_refl _) hb⟩
theorem Has.drew (h : Has w0 M w) : Has w0 M w.drew := ⟨h.rows, h.low, h.apart, h.below.drew⟩
theorem Has.perm (h : Has w0 M w) (p : M.Perm M') : Has w0 M' w :=
  ⟨fun r hr => h.rows r (p.mem_iff.2 hr), fun r hr => h.low r (p.mem_iff.2 hr), (p.map _).nodup_iff.1 h.apart, h.below⟩
theorem Has.sub (h : Has w0 M w) (s : M'.Sublist M) : Has w0 M' w :=
  ⟨fun r hr => h.rows r (s.subset hr), fun r hr => h.low r (s.subset hr), h.apart.sublist (s.map _), h.below⟩
theorem Has.cons (h : Has w0 M w) (cs : Array Value) (t : TypeId) : Has w0 ((w.heap.size, cs, t) :: M) (w.alloc (Obj.cells cs t)) := by
  refine ⟨fun r hr => ?_, fun r hr => ?_, ?_, h.below.alloc h.below.size _⟩
  · rcases List.mem_cons.1 hr with rfl | h1
    · unfold IsR; exact (by repeat (first | (with_reducible refine heap_top _ _ _ ?_; first | (simp; done) | (simp; omega)) | rw [Below.heap_alloc _ _ _ (by first | (simp; done) | (simp; omega))]))
    · exact (h.rows r h1).alloc _
  · rcases List.mem_cons.1 hr with rfl | h1
    · exact h.below.size
    · exact h.low r h1
  · simp only [List.map_cons, List.nodup_cons]
    refine ⟨fun hm => ?_, h.apart⟩
    obtain ⟨r, hr, he⟩ := List.mem_map.1 hm
    have := (h.rows r hr).lt
    omega
theorem Has.new (h : Has w0 M w) (cs : Array Value) (t : TypeId) : Has w0 (M ++ [(w.heap.size, cs, t)]) (w.alloc (Obj.cells cs t)) :=
  (h.cons cs t).perm (List.perm_append_comm (l₁ := [_]))
theorem Has.putHead (h : Has w0 ((g, cs, t) :: M) w) (hp : Put g cs' t' w w1) : Has w0 ((g, cs', t') :: M) w1 := by
  have hn := h.apart
  simp only [List.map_cons, List.nodup_cons] at hn
  refine ⟨fun r hr => ?_, fun r hr => ?_, by simpa using h.apart, hp.below _ _ (h.low _ (List.mem_cons_self ..)) h.below⟩
  · rcases List.mem_cons.1 hr with rfl | h1
    · exact hp.row
    · exact (h.rows r (List.mem_cons_of_mem _ h1)).put hp fun e => hn.1 (List.mem_map.2 ⟨r, h1, e⟩)
  · rcases List.mem_cons.1 hr with rfl | h1
    · exact h.low (g, cs, t) (List.mem_cons_self ..)
    · exact h.low r (List.mem_cons_of_mem _ h1)
theorem list_split {α : Type} : ∀ (l : List α) (i : Nat) (x : α), l[i]? = some x → ∀ y, ∃ R, l.Perm (x :: R) ∧ (l.set i y).Perm (y :: R)
  | [], _, _, h, _ => by simp at h
  | a :: l, 0, x, h, y => by
    simp at h; subst h
    exact ⟨l, List.Perm.refl _, List.Perm.refl _⟩
  | a :: l, i + 1, x, h, y => by
    obtain ⟨R, h1, h2⟩ := list_split l i x (by simpa using h) y
    exact ⟨a :: R, (h1.cons a).trans (List.Perm.swap ..), by rw [List.set_cons_succ]; exact (h2.cons a).trans (List.Perm.swap ..)⟩
/-- Row i is written over. -/
theorem Has.put (h : Has w0 M w) (i : Nat) (e : M[i]? = some (g, cs, t)) (hp : Put g cs' t' w w1) : Has w0 (M.set i (g, cs', t')) w1 := by
  obtain ⟨R, h1, h2⟩ := list_split M i _ e (g, cs', t')
  exact ((h.perm h1).putHead hp).perm h2.symm
theorem Has.more (h : Has w0 M w) (hb : Below w.heap.size w w1) (N : List Rw) (hr : ∀ r ∈ N, IsR w1 r.1 r.2.1 r.2.2 ∧ w.heap.size ≤ r.1) (hn : (N.map (·.1)).Nodup) : Has w0 (M ++ N) w1 := by
  refine ⟨fun r h1 => ?_, fun r h1 => ?_, ?_, below_two h.below (Nat.le_refl _) hb⟩
  · rcases List.mem_append.1 h1 with h1 | h1
    · exact (h.rows r h1).kept hb
    · exact (hr r h1).1
  · rcases List.mem_append.1 h1 with h1 | h1
    · exact h.low r h1
    · exact Nat.le_trans h.below.size (hr r h1).2
  · rw [List.map_append, List.nodup_append]
    refine ⟨h.apart, hn, fun a ha b hb' => ?_⟩
    obtain ⟨r, hr1, rfl⟩ := List.mem_map.1 ha
    obtain ⟨s, hs1, rfl⟩ := List.mem_map.1 hb'
    have := (h.rows r hr1).lt
    have := (hr s hs1).2
    omega
end

/-- A goal that is not looked into (Lean's elaborator reduces a goal's head: of a walk that means to run it). -/
structure Stay (p : Prop) : Prop where out : p

/-- What an operation that has come up adds to the rows: nothing (not listed); a new box, which operation s writes; what a call made. -/
inductive Sp
  | box (T : TypeId) (z : Array Value) (s : Nat)
  | fam (f : Value → List Rw)
  | own (g : Nat) (z : Array Value) (T : TypeId)

def Sp.target : Sp → Option Nat
  | .box _ _ s => some s
  | _ => none
def cellsOf : Value → Array Value
  | .agg cs => cs
  | v => #[v]
def boxRow (T : TypeId) (c : Array Value) : Value → List Rw
  | .pointer (some ⟨g, 0, none⟩) => [(g, c, T)]
  | _ => []
def rowsAt (δ : Rec) (x : Nat × Sp) : List Rw :=
  match x.2, δ x.1 with
  | .box T z s, some u => boxRow T (match δ s with | some r => cellsOf r | none => z) u
  | .fam f, some u => f u
  | .own g z T, r => [(g, (match r with | some u => cellsOf u | none => z), T)]
  | _, none => []
def rowsOf (B : List (Nat × Sp)) (δ : Rec) : List Rw := B.flatMap (rowsAt δ)

def Cl (w0 : World) (L : List Rw) (B : List (Nat × Sp)) : Rec → World → Prop := fun δ w => Has w0 (L ++ rowsOf B δ) w

/-- Operation i is none of B's, and writes none of its boxes. -/
def plainB (B : List (Nat × Sp)) (i : Nat) : Bool := B.all fun x => x.1 != i && x.2.target != some i
def othersB (B : List (Nat × Sp)) (m i : Nat) : Bool := (List.range B.length).all fun j => j == m || match B[j]? with | some x => x.1 != i && x.2.target != some i | none => true

theorem rowsAt_set {δ : Rec} {i : Nat} {r : Value} {x : Nat × Sp} (h1 : (x.1 != i) = true) (h2 : (x.2.target != some i) = true) : rowsAt (setRec δ i r) x = rowsAt δ x := by
  obtain ⟨k, s⟩ := x
  have hk : k ≠ i := by simpa using h1
  cases s with
  | box T z s =>
    have hs : s ≠ i := fun e => by subst e; simp [Sp.target] at h2
    unfold rowsAt
    simp only [setRec_ne δ r hk]
    cases δ k with
    | none => rfl
    | some u => simp only [setRec_ne δ r hs]
  | fam f =>
    unfold rowsAt
    simp only [setRec_ne δ r hk]
    cases δ k <;> rfl
  | own g z T =>
    unfold rowsAt
    simp only [setRec_ne δ r hk]

theorem rowsOf_plain {B : List (Nat × Sp)} {i : Nat} (h : plainB B i = true) (δ : Rec) (r : Value) : rowsOf B (setRec δ i r) = rowsOf B δ := by
  unfold rowsOf plainB at *
  rw [List.all_eq_true] at h
  induction B with
  | nil => rfl
  | cons x B ih =>
    have hx := h x (List.mem_cons_self ..)
    simp only [Bool.and_eq_true] at hx
    rw [List.flatMap_cons, List.flatMap_cons, rowsAt_set hx.1 hx.2, ih fun y hy => h y (List.mem_cons_of_mem _ hy)]

theorem flat_congr {α β : Type} {f f' : α → List β} : ∀ {B : List α}, (∀ y ∈ B, f' y = f y) → B.flatMap f' = B.flatMap f
  | [], _ => rfl
  | x :: B, h => by rw [List.flatMap_cons, List.flatMap_cons, h x (List.mem_cons_self ..), flat_congr fun y hy => h y (List.mem_cons_of_mem _ hy)]
theorem flat_upd {α β : Type} (f f' : α → List β) : ∀ (B : List α) (m : Nat) (x : α), B[m]? = some x → (∀ j y, B[j]? = some y → j ≠ m → f' y = f y) → ∃ R, (B.flatMap f).Perm (f x ++ R) ∧ (B.flatMap f').Perm (f' x ++ R)
  | [], _, _, h, _ => by simp at h
  | a :: B, 0, x, h, ho => by
    simp at h; subst h
    refine ⟨B.flatMap f, by simp, ?_⟩
    have e : B.flatMap f' = B.flatMap f := by
      refine flat_congr fun y hy => ?_
      obtain ⟨j, hj⟩ := List.mem_iff_getElem?.1 hy
      exact ho (j + 1) y (by simpa using hj) (by omega)
    simp [e]
  | a :: B, m + 1, x, h, ho => by
    obtain ⟨R, h1, h2⟩ := flat_upd f f' B m x (by simpa using h) (fun j y hj hne => ho (j + 1) y (by simpa using hj) (by omega))
    have ea : f' a = f a := ho 0 a (by simp) (by omega)
    refine ⟨f a ++ R, ?_, ?_⟩
    · rw [List.flatMap_cons]
      exact (h1.append_left _).trans (by rw [← List.append_assoc, ← List.append_assoc]; exact List.perm_append_comm.append_right _)
    · rw [List.flatMap_cons, ea]
      exact (h2.append_left _).trans (by rw [← List.append_assoc, ← List.append_assoc]; exact List.perm_append_comm.append_right _)

theorem rowsOf_upd {B : List (Nat × Sp)} {m i : Nat} {x : Nat × Sp} (hx : B[m]? = some x) (h : othersB B m i = true) (δ : Rec) (r : Value) :
    ∃ R, (rowsOf B δ).Perm (rowsAt δ x ++ R) ∧ (rowsOf B (setRec δ i r)).Perm (rowsAt (setRec δ i r) x ++ R) := by
  refine flat_upd _ _ B m x hx fun j y hj hne => ?_
  unfold othersB at h
  rw [List.all_eq_true] at h
  have := h j (List.mem_range.2 (List.getElem?_eq_some_iff.1 hj).1)
  simp only [hj, Bool.or_eq_true, beq_iff_eq, hne, false_or, Bool.and_eq_true] at this
  exact rowsAt_set this.1 this.2

/-- What an operation may hand back: as listed; else the one value that it yields in all worlds in which the rows L stand. -/
def Sd (P : Program) (l : Array Oper) (w0 : World) (L : List Rw) (over : List (Nat × (Value → Prop))) : Nat → Array Value → Value → Prop := fun i vs v =>
  match over.lookup i with
  | some p => p v
  | none => match l[i]? with
    | none => False
    | some o => ∃ a w, vals a o = vs ∧ Has w0 L w ∧ ((execOp a.eval o).run P w = .ok (.value v) w ∨ (v = undef ∧ o.dst = none))

section
variable {P : Program} {l : Array Oper} {w0 : World} {L : List Rw} {B : List (Nat × Sp)} {over : List (Nat × (Value → Prop))} {Q : Act → Prop} {o : Oper} {rest : List Oper} {i : Nat} {a : Act}

theorem Cl.base {δ : Rec} {w : World} (h : Cl w0 L B δ w) : Has w0 L w := Has.sub h (List.sublist_append_left _ _)

theorem run_vals {a a' : Act} {o : Oper} (hs : ∀ cs b, o.op ≠ .select cs b) (h : vals a' o = vals a o) : execOp a'.eval o = execOp a.eval o :=
  execOp_congr o hs fun x hx => by
    have hx' : x ∈ o.op.operands := hx
    obtain ⟨k, hk, rfl⟩ := Array.mem_iff_getElem.1 hx'
    have := congrArg (fun z => z[k]?) h
    simp [vals, hk] at this
    exact this

/-- An operation that leaves the world alone: a load of a row of L, arithmetic, .. -/
theorem rs_ex (hg : Region.wanted o (yielded l a.tmps) = true) (hi : l[i]? = some o) (hs : (match o.op with | .select _ _ => false | .store _ _ _ => false | _ => o.dst.isSome) = true) (hov : (over.lookup i).isNone = true) (hp : plainB B i = true) (hw : ∃ w, Has w0 L w)
    (h : ∀ K : Act → Prop, (∀ a, Stay (wpSet P l (Cl w0 L B) (Sd P l w0 L over) Q rest (i + 1) a) → K a) → ∃ v, (∀ w, Has w0 L w → (execOp a.eval o).run P w = .ok (.value v) w) ∧ K (a.put o.dst v)) :
    Stay (wpSet P l (Cl w0 L B) (Sd P l w0 L over) Q (o :: rest) i a) := by
  refine ⟨?_⟩
  obtain ⟨v, hv, hK⟩ := h _ (fun _ h => h.out)
  have hov' : over.lookup i = none := by cases h : over.lookup i with | none => rfl | some p => rw [h] at hov; cases hov
  have hsel : ∀ cs b, o.op ≠ .select cs b := fun cs b e => by rw [e] at hs; cases hs
  have hdst : o.dst ≠ none := fun e => by
    cases hop : o.op <;> simp [hop, e] at hs
  have hrec : ∀ u, recOf o a u = u := fun u => by
    unfold recOf; split
    · rename_i e; rw [e] at hs; cases hs
    · rfl
  have mk : ∀ w, Has w0 L w → Sd P l w0 L over i (vals a o) v := fun w hw => by
    unfold Sd; rw [hov']; simp only [hi]
    exact ⟨a, w, rfl, hw, .inl (hv w hw)⟩
  have uniq : ∀ u, Sd P l w0 L over i (vals a o) u → u = v := fun u hu => by
    unfold Sd at hu; rw [hov'] at hu; simp only [hi] at hu
    obtain ⟨a', w', he, hw', hr⟩ := hu
    rcases hr with hr | hr
    · rw [run_vals hsel he, hv w' hw'] at hr
      injection hr with h1
      injection h1 with h2
      exact h2.symm
    · exact absurd hr.2 hdst
  unfold wpSet
  rw [if_pos hg]
  refine ⟨fun δ w hc hn ha => ?_, ?_, fun u hu => by rw [uniq u hu]; exact hK⟩
  · rw [hv w hc.base]
    refine ⟨mk w hc.base, ?_⟩
    unfold Cl at *
    rw [rowsOf_plain hp]
    exact hc
  · obtain ⟨w, hw⟩ := hw
    exact ⟨v, mk w hw⟩

/-- A call, its answer listed; memory grows at most, nothing of it is told. -/
theorem rs_call (hg : Region.wanted o (yielded l a.tmps) = true) (hs : (match o.op with | .store _ _ _ => false | _ => true) = true) (p : Value → Prop) (hov : over.lookup i = some p) (hp : plainB B i = true) (hex : ∃ v, p v) {f : FuncId} {args : Array Value}
    (hv : ∀ w, (execOp a.eval o).run P w = .ok (.enter f args) w) (hc : ∀ w, Has w0 L w → Calls P f args w fun e w' => ∃ v, e = .returned v ∧ p v ∧ Below w.heap.size w w')
    (h : ∀ K : Act → Prop, (∀ a, Stay (wpSet P l (Cl w0 L B) (Sd P l w0 L over) Q rest (i + 1) a) → K a) → ∀ v, p v → K (a.put o.dst v)) :
    Stay (wpSet P l (Cl w0 L B) (Sd P l w0 L over) Q (o :: rest) i a) := by
  refine ⟨?_⟩
  have hS : ∀ u, Sd P l w0 L over i (vals a o) u ↔ p u := fun u => by unfold Sd; rw [hov]
  unfold wpSet
  rw [if_pos hg]
  refine ⟨fun δ w hcl hn ha => ?_, ?_, fun u hu => h _ (fun _ h => h.out) u ((hS u).1 hu)⟩
  · rw [hv w]
    refine (hc w hcl.base).mono fun e w' ⟨v, he, hpv, hb⟩ => ⟨v, he, (hS v).2 hpv, ?_⟩
    unfold Cl at *
    rw [rowsOf_plain hp]
    exact hcl.kept hb
  · obtain ⟨v, hv⟩ := hex; exact ⟨v, (hS v).2 hv⟩

/-- A new box. -/
theorem rs_alloc (hg : Region.wanted o (yielded l a.tmps) = true) (hs : (match o.op with | .store _ _ _ => false | _ => true) = true) (hov : over.lookup i = some fun v => ∃ g, v = .pointer (some ⟨g, 0, none⟩)) (m : Nat) {T : TypeId} {z : Array Value} {s : Nat} (hm : B[m]? = some (i, .box T z s)) (hp : othersB B m i = true)
    {os : Oper} (hos : l[s]? = some os) (hsi : s ≠ i) (hse : (os.after.any fun e => Region.binds .any e && e.on == i) = true)
    (hv : ∀ w, (execOp a.eval o).run P w = .ok (.value (.pointer (some ⟨w.heap.size, 0, none⟩))) (w.alloc (Obj.cells z T)))
    (h : ∀ K : Act → Prop, (∀ a, Stay (wpSet P l (Cl w0 L B) (Sd P l w0 L over) Q rest (i + 1) a) → K a) → ∀ g : Nat, K (a.put o.dst (.pointer (some ⟨g, 0, none⟩)))) :
    Stay (wpSet P l (Cl w0 L B) (Sd P l w0 L over) Q (o :: rest) i a) := by
  refine ⟨?_⟩
  have hS : ∀ u, Sd P l w0 L over i (vals a o) u ↔ ∃ g, u = .pointer (some ⟨g, 0, none⟩) := fun u => by unfold Sd; rw [hov]
  unfold wpSet
  rw [if_pos hg]
  refine ⟨fun δ w hcl hn ha => ?_, ⟨_, (hS _).2 ⟨0, rfl⟩⟩, fun u hu => ?_⟩
  · rw [hv w]
    refine ⟨(hS _).2 ⟨_, rfl⟩, ?_⟩
    have hrec : ∀ v, recOf o a v = v := fun v => by
      unfold recOf; split
      · rename_i e; rw [e] at hs; cases hs
      · rfl
    rw [hrec]
    unfold Cl at *
    obtain ⟨R, h1, h2⟩ := rowsOf_upd hm hp δ (.pointer (some ⟨w.heap.size, 0, none⟩))
    obtain ⟨k, hk, hke⟩ := Array.any_eq_true.1 hse
    simp only [Bool.and_eq_true, beq_iff_eq] at hke
    have hds : δ s = none := by
      cases hd : δ s with
      | none => rfl
      | some u =>
        have := hn.shut s os hos (by rw [hd]; rfl) _ (Array.getElem_mem hk) hke.1
        rw [hke.2, hn.not] at this
        cases this
    have e1 : rowsAt δ (i, .box T z s) = [] := by simp [rowsAt, hn.not]
    have e2 : rowsAt (setRec δ i (.pointer (some ⟨w.heap.size, 0, none⟩))) (i, .box T z s) = [(w.heap.size, z, T)] := by
      simp [rowsAt, setRec_self, setRec_ne _ _ hsi, hds, boxRow]
    rw [e1, List.nil_append] at h1
    rw [e2] at h2
    refine (Has.cons hcl z T).perm ?_
    exact (((h1.append_left L).cons _).trans (List.perm_middle (l₁ := L)).symm).trans (by simpa using h2.symm.append_left L)
  · obtain ⟨g, rfl⟩ := (hS u).1 hu
    exact h _ (fun _ h => h.out) g
/-- A box is written, by what the region computed. -/
theorem rs_store (hg : Region.wanted o (yielded l a.tmps) = true) (hd : o.dst = none) (hi : l[i]? = some o) (hov : (over.lookup i).isNone = true) (hw : ∃ w, Has w0 L w) {Ts : TypeId} {d : Tmp} {y : Operand} (hop : o.op = .store Ts (.tmp d) y) (m : Nat) {k : Nat} {T : TypeId} {z cs : Array Value} (hm : B[m]? = some (k, .box T z i)) (hp : othersB B m i = true) (hki : k ≠ i)
    {ok : Oper} (hok : l[k]? = some ok) (hkd : ok.dst = some d) (hke : (o.after.any fun e => Region.binds .any e && e.on == k) = true) {g : Nat} (hx : a.eval (.tmp d) = .pointer (some ⟨g, 0, none⟩)) (hc : cellsOf (a.eval y) = cs)
    (hv : ∀ w, IsR w g z T → ∃ w', (execOp a.eval o).run P w = .ok .skip w' ∧ Put g cs T w w')
    (h : ∀ K : Act → Prop, (∀ a, Stay (wpSet P l (Cl w0 L B) (Sd P l w0 L over) Q rest (i + 1) a) → K a) → K (a.put o.dst undef)) :
    Stay (wpSet P l (Cl w0 L B) (Sd P l w0 L over) Q (o :: rest) i a) := by
  refine ⟨?_⟩
  have hov' : over.lookup i = none := by cases h : over.lookup i with | none => rfl | some p => rw [h] at hov; cases hov
  have hsel : ∀ cs b, o.op ≠ .select cs b := fun cs b e => by rw [hop] at e; cases e
  have hS : ∀ w, Has w0 L w → Sd P l w0 L over i (vals a o) undef := fun w hh => by
    unfold Sd; rw [hov']; simp only [hi]
    exact ⟨a, w, rfl, hh, Or.inr ⟨trivial, hd⟩⟩
  have uniq : ∀ u, Sd P l w0 L over i (vals a o) u → a.put o.dst u = a.put o.dst undef := fun u _ => by rw [hd]; rfl
  unfold wpSet
  rw [if_pos hg]
  refine ⟨fun δ w hcl hn ha => ?_, ?_, fun u hu => by rw [uniq u hu]; exact h _ (fun _ h => h.out)⟩
  · have hrec : ∀ v, recOf o a v = a.eval y := fun v => by unfold recOf; rw [hop]
    obtain ⟨e, he, hb, hon⟩ : ∃ e ∈ o.after, Region.binds .any e = true ∧ e.on = k := by
      obtain ⟨j, hj, hje⟩ := Array.any_eq_true.1 hke
      simp only [Bool.and_eq_true, beq_iff_eq] at hje
      exact ⟨_, Array.getElem_mem hj, hje.1, hje.2⟩
    have hks := hn.deps e he hb
    rw [hon] at hks
    obtain ⟨u, hu⟩ := Option.isSome_iff_exists.1 hks
    have hag := ha k ok d u hok hkd (by rw [hop]; simp [Op.operands]) hu
    rw [hx] at hag
    subst hag
    have hbase := hcl.base
    unfold Cl at *
    obtain ⟨R, h1, h2⟩ := rowsOf_upd hm hp δ (a.eval y)
    have e1 : rowsAt δ (k, .box T z i) = [(g, z, T)] := by simp [rowsAt, hu, hn.not, boxRow]
    have e2 : rowsAt (setRec δ i (a.eval y)) (k, .box T z i) = [(g, cs, T)] := by
      simp [rowsAt, setRec_self, setRec_ne _ _ hki, hu, boxRow, hc]
    rw [e1] at h1
    rw [e2] at h2
    have hh : Has w0 ((g, z, T) :: (L ++ R)) w := hcl.perm ((h1.append_left L).trans (List.perm_middle (l₁ := L)))
    obtain ⟨w', hr, hput⟩ := hv w (hh.row 0 rfl)
    rw [hr]
    refine ⟨hS w hbase, ?_⟩
    rw [hrec]
    exact (hh.putHead hput).perm ((List.perm_middle (l₁ := L)).symm.trans (h2.symm.append_left L))
  · obtain ⟨w, hw⟩ := hw
    exact ⟨undef, hS w hw⟩

theorem rows_mem {δ : Rec} {m : Nat} {x : Nat × Sp} (hm : B[m]? = some x) : ∃ R, (rowsOf B δ).Perm (rowsAt δ x ++ R) := by
  obtain ⟨R, h1, _⟩ := flat_upd (rowsAt δ) (rowsAt δ) B m x hm (fun _ _ _ _ => rfl)
  exact ⟨R, h1⟩
theorem Cl.with {δ : Rec} {w : World} (h : Cl w0 L B δ w) {m : Nat} {x : Nat × Sp} (hm : B[m]? = some x) : Has w0 (L ++ rowsAt δ x) w := by
  obtain ⟨R, h1⟩ := rows_mem (δ := δ) hm
  unfold Cl at h
  refine Has.sub (h.perm (h1.append_left L)) ?_
  rw [← List.append_assoc]
  exact List.sublist_append_left _ _
theorem rs_nil (h : Q a) : Stay (wpSet P l (Cl w0 L B) (Sd P l w0 L over) Q [] i a) := ⟨h⟩

/-- The rows at the end. -/
def endRow (l : Array Oper) (a : Act) (x : Nat × Sp) : List Rw :=
  match x.2 with
  | .own g z T => (match l[x.1]? with
    | some os => match os.op with
      | .store _ _ y => [(g, cellsOf (a.eval y), T)]
      | _ => [(g, z, T)]
    | none => [(g, z, T)])
  | _ => match l[x.1]? with
  | some ok => match ok.dst with
    | some d => match x.2 with
      | .box T z s => match l[s]? with
        | some os => match os.op with
          | .store _ _ y => boxRow T (cellsOf (a.eval y)) (a.eval (.tmp d))
          | _ => boxRow T z (a.eval (.tmp d))
        | none => boxRow T z (a.eval (.tmp d))
      | .fam f => f (a.eval (.tmp d))
      | .own _ _ _ => []
    | none => []
  | none => []

/-- What is needed of B for it. -/
def endB (l : Array Oper) (B : List (Nat × Sp)) : Bool := B.all fun x => match l[x.1]? with
  | some ok => (match x.2 with | .own _ _ _ => true | _ => ok.dst.isSome) && (match x.2 with
    | .own _ _ _ => (match ok.op with | .store _ _ _ => ok.guard.isNone | _ => false)
    | .box _ _ s => (match l[s]? with
      | some os => (match os.op with | .store _ _ _ => os.guard.isNone | _ => false)
      | none => false)
    | .fam _ => true)
  | none => false

theorem rows_end {δ : Rec} {a : Act} (hB : endB l B = true) (hd : ∀ j, j < l.size → (δ j).isSome = true) (hw : Whole l δ a) : rowsOf B δ = B.flatMap (endRow l a) := by
  unfold rowsOf
  refine flat_congr fun x hx => ?_
  unfold endB at hB
  have hb := (List.all_eq_true.1 hB) x hx
  cases hk : l[x.1]? with
  | none => simp [hk] at hb
  | some ok =>
    simp only [hk, Bool.and_eq_true] at hb
    obtain ⟨u, hu⟩ := Option.isSome_iff_exists.1 (hd x.1 (Array.getElem?_eq_some_iff.1 hk).1)
    unfold endRow rowsAt
    cases hx2 : x.2 with
    | own g z T =>
      have hb2 := hb.2
      simp only [hx2] at hb2
      cases hop : ok.op <;> simp only [hop] at hb2 <;> try cases hb2
      rename_i Ts x' y
      have := hw.kept x.1 ok Ts x' y u hk hop (by simpa using hb2) hu
      simp only [hk, hop, hu, this]
    | fam f =>
      have hb1 := hb.1
      simp only [hx2] at hb1
      obtain ⟨d, hdd⟩ := Option.isSome_iff_exists.1 hb1
      have hsl := hw.slot x.1 ok d u hk hdd hu
      simp only [hk, hdd, hu, hsl]
    | box T z s =>
      have hb1 := hb.1
      simp only [hx2] at hb1
      obtain ⟨d, hdd⟩ := Option.isSome_iff_exists.1 hb1
      have hsl := hw.slot x.1 ok d u hk hdd hu
      have hb2 := hb.2
      simp only [hx2] at hb2
      cases hs : l[s]? with
      | none => simp [hs] at hb2
      | some os =>
        simp only [hs] at hb2
        cases hop : os.op <;> simp only [hop] at hb2 <;> try cases hb2
        rename_i Ts x' y
        obtain ⟨r, hr⟩ := Option.isSome_iff_exists.1 (hd s (Array.getElem?_eq_some_iff.1 hs).1)
        have := hw.kept s os Ts x' y r hs hop (by simpa using hb2) hr
        simp only [hk, hdd, hu, hr, this, hsl, hs, hop]
end

theorem wpSet_mono {P : Program} {ops : Array Oper} {C : Rec → World → Prop} {S : Nat → Array Value → Value → Prop} {Q Q' : Act → Prop} (hq : ∀ a, Q a → Q' a) : ∀ (l : List Oper) (i : Nat) (a : Act), wpSet P ops C S Q l i a → wpSet P ops C S Q' l i a
  | [], _, _, h => hq _ h
  | o :: l, i, a, h => by
    unfold wpSet at *
    split
    · rename_i hw; rw [if_pos hw] at h; exact ⟨h.1, h.2.1, fun v hv => wpSet_mono hq l _ _ (h.2.2 v hv)⟩
    · rename_i hw; rw [if_neg hw] at h; exact ⟨h.1, wpSet_mono hq l _ _ h.2⟩

/-- A region that draws its order, with boxes and calls that make memory: walked once. -/
theorem wp_region_rows {P : Program} {w0 : World} {L : List Rw} {id : Nat} {Q : Exit → Act → World → Prop} {a : Act} {w : World} {l : List Oper} (B : List (Nat × Sp)) (over : List (Nat × (Value → Prop))) (hh : Has w0 (L ++ rowsOf B noRec) w) (hm : P.follows .mixedOrders = true) (hB : Region.lexB .any l.toArray = true)
    (hS : Region.slotsB l.toArray a.tmps.size = true) (hE : endB l.toArray B = true)
    (h : Stay (wpSet P l.toArray (Cl w0 L B) (Sd P l.toArray w0 L over) (fun a' => ∀ w', Has w0 (L ++ B.flatMap (endRow l.toArray a')) w' → Q .normal a' w') l 0 a)) : (Code.region id l.toArray true).wp P Q a w := by
  refine wp_region_set (Cl w0 L B) (Sd P l.toArray w0 L over) hm hB hS ?_ ?_
  · unfold Cl; exact hh.drew
  · refine wpSet_mono (fun a' hq w' δ hc hd hw => hq w' ?_) _ _ _ h.out
    have := rows_end (l := l.toArray) hE (by simpa using hd) hw
    unfold Cl at hc
    rwa [this] at hc
end Go.Proofs.Ytoljahfofkmdaaa

/-! Steps of a walk in one order, over rows that stand. -/
namespace Go.Proofs.Ytoljahfofkmdaaa
open Go Go.RowKit

section
variable {P : Program} {ops : Array Oper} {w0 w : World} {L : List Rw} {Q : Exit → Act → World → Prop} {o : Oper} {rest : List Oper} {a : Act}

theorem sq_region {id : Nat} {l : List Oper} (h : Stay (wpList P l.toArray Q l a w)) : (Code.region id l.toArray false).wp P Q a w := wp_region_lit h.out
theorem sq_nil (h : Q .normal a w) : Stay (wpList P ops Q [] a w) := ⟨h⟩
/-- An operation that leaves the world alone. -/
theorem sq_ex (hg : Region.wanted o (yielded ops a.tmps) = true)
    (h : ∀ K : Act → World → Prop, (∀ a w, Stay (wpList P ops Q rest a w) → K a w) → ∃ v, (execOp a.eval o).run P w = .ok (.value v) w ∧ K (a.put o.dst v) w) : Stay (wpList P ops Q (o :: rest) a w) :=
  ⟨wpList_step fun K hK' => by
    have hK : ∀ a w, Stay (wpList P ops Q rest a w) → K a w := fun a w h => hK' a w h.out
    obtain ⟨v, hv, h2⟩ := h K hK
    rw [if_pos hg]
    unfold Oper.wp
    rw [hv]
    exact h2⟩
/-- A call, by its contract. -/
theorem sq_call (hg : Region.wanted o (yielded ops a.tmps) = true) {f : FuncId} {args : Array Value} (hv : ∀ w, (execOp a.eval o).run P w = .ok (.enter f args) w) {R : Ending → World → Prop} (hc : Calls P f args w R)
    (h : ∀ K : Act → World → Prop, (∀ a w, Stay (wpList P ops Q rest a w) → K a w) → ∀ e w', R e w' → ∃ v, e = .returned v ∧ K (a.put o.dst v) w') : Stay (wpList P ops Q (o :: rest) a w) :=
  ⟨wpList_step fun K hK' => by
    have hK : ∀ a w, Stay (wpList P ops Q rest a w) → K a w := fun a w h => hK' a w h.out
    rw [if_pos hg]
    unfold Oper.wp
    rw [hv w]
    refine hc.mono fun e w' hR => ?_
    obtain ⟨v, he, h2⟩ := h K hK e w' hR
    subst he
    exact h2⟩
/-- A new box. -/
theorem sq_alloc (hg : Region.wanted o (yielded ops a.tmps) = true) (M : Has w0 L w) {T : TypeId} {z : Array Value} (hv : ∀ w, (execOp a.eval o).run P w = .ok (.value (.pointer (some ⟨w.heap.size, 0, none⟩))) (w.alloc (Obj.cells z T)))
    (h : ∀ K : Act → World → Prop, (∀ a w, Stay (wpList P ops Q rest a w) → K a w) → ∀ g w', Has w0 (L ++ [(g, z, T)]) w' → K (a.put o.dst (.pointer (some ⟨g, 0, none⟩))) w') : Stay (wpList P ops Q (o :: rest) a w) :=
  ⟨wpList_step fun K hK' => by
    have hK : ∀ a w, Stay (wpList P ops Q rest a w) → K a w := fun a w h => hK' a w h.out
    rw [if_pos hg]
    unfold Oper.wp
    rw [hv w]
    exact h K hK _ _ (M.new z T)⟩
end

/-- The row that a slice's value tells. -/
def sliceRow (T : TypeId) (c : Array Value) : Value → List Rw
  | .slice (some ⟨g, 0, none⟩) _ _ => [(g, c, T)]
  | _ => []

section
variable {P : Program} {w : World} {o : Oper} {a : Act} {g : Nat} {cs z : Array Value} {t T : TypeId} {x y : Operand} {d : TypeDesc}
/-- A row is read whole. -/
theorem run_ld (ho : o.op = .load T x) (hx : a.eval x = .pointer (some ⟨g, 0, none⟩)) (hg : IsR w g cs t) (hd : (match d with | .struct _ | .array _ _ => true | _ => false) = true) (hu : P.underlying T = some d) (hi : (P.info? T).map (·.size) = some cs.size) :
    (execOp a.eval o).run P w = .ok (.value (.agg cs)) w := by
  unfold execOp
  simp only [ho, hx, Instr.loadAt, Instr.sureAddr, Sem.run_bind, Sem.run_pure, Result.andThen_ok, run_row hg hu (by cases d <;> first | rfl | cases hd) hi]
/-- Some cells of a row are read. -/
theorem run_ldm {off : Nat} (vs : List Value) (ho : o.op = .load T x) (hx : a.eval x = .pointer (some ⟨g, off, none⟩)) (hg : IsR w g cs t) (hv : ∀ j v, vs[j]? = some v → cs[off + j]? = some v) (hd : d.isRow = true) (hu : P.underlying T = some d) (hi : (P.info? T).map (·.size) = some vs.length) :
    (execOp a.eval o).run P w = .ok (.value (.agg vs.toArray)) w := by
  unfold execOp
  simp only [ho, hx, Instr.loadAt, Instr.sureAddr, Sem.run_bind, Sem.run_pure, Result.andThen_ok, run_loadVar_mid w g off T vs d (fun j v hj => (hg.cell (off + j)).trans (hv j v hj)) hu hd hi]
/-- A row is written whole. -/
theorem run_st (ho : o.op = .store T x y) (hx : a.eval x = .pointer (some ⟨g, 0, none⟩)) (hy : a.eval y = .agg cs) (hi : (P.info? T).map (·.size) = some cs.size) (hz : z.size = cs.size) (h1 : cs.all (·.oneCell') = true) :
    ∀ w, IsR w g z t → ∃ w', (execOp a.eval o).run P w = .ok .skip w' ∧ Put g cs t w w' := fun w hg => by
  refine ⟨w.setRow g cs, ?_, put_setRow hg⟩
  unfold execOp
  simp only [ho, hx, hy, Instr.storeAt, Instr.sureAddr, Sem.run_bind, Sem.run_pure, Result.andThen_ok, run_storeVar_row w g t T z cs hg hi hz h1]
end
end Go.Proofs.Ytoljahfofkmdaaa

/-! append onto a slice whose row is the walk's own. -/
namespace Go.Proofs.Ytoljahfofkmdaaa
open Go Go.RowKit

/-- A row of capacity cap, whose first n elements (of so many cells each) are the cells xs. -/
structure OwnS (size : Nat) (xs : List Value) (n cap : Nat) (cs : Array Value) : Prop where
  len : xs.length = n * size
  le : n ≤ cap
  max : cap ≤ maxLen
  csz : cs.size = cap * size
  pre : cs.toList.take (n * size) = xs

theorem OwnS.get {size n cap : Nat} {xs : List Value} {cs : Array Value} (h : OwnS size xs n cap cs) (j : Nat) (hj : j < n * size) : cs[j]? = xs[j]? := by
  rw [← h.pre, List.getElem?_take, if_pos hj]; simp

theorem Put.two {g : Nat} {cs cs' : Array Value} {t t' : TypeId} {w w1 w2 : World} (h : Put g cs t w w1) (h2 : Put g cs' t' w1 w2) : Put g cs' t' w w2 :=
  ⟨h2.row, fun k hk => (h2.rest k hk).trans (h.rest k hk), fun B w0 hB hb => h2.below B w0 hB (h.below B w0 hB hb), h2.size.trans h.size⟩

theorem put_setCells (g : Nat) (t : TypeId) : ∀ (vs : List Value) (off : Nat) (w : World) (cs : Array Value), IsR w g cs t → off + vs.length ≤ cs.size → vs ≠ [] →
    ∃ cs', Put g cs' t w (w.setCells g off vs) ∧ cs'.size = cs.size ∧ cs'.toList.take (off + vs.length) = cs.toList.take off ++ vs
  | [], _, _, _, _, _, h => absurd rfl h
  | [v], off, w, cs, hg, hl, _ => by
    refine ⟨_, put_setCell v hg, by simp, ?_⟩
    simp only [List.length_cons, List.length_nil, Nat.zero_add] at hl ⊢
    apply List.ext_getElem?
    intro k
    simp only [List.getElem?_take, Array.toList_setIfInBounds, List.getElem?_append, List.length_take, Array.length_toList, List.getElem?_set]
    have : min off cs.size = off := by omega
    rw [this]
    by_cases h1 : k < off
    · simp [h1, show k < off + 1 by omega, show ¬ off = k by omega]
    · by_cases h2 : k = off
      · subst h2; simp [show k < cs.size by omega]
      · have h3 : ¬ k < off + 1 := by omega
        rw [if_neg h3, if_neg h1, List.getElem?_eq_none (by simp; omega)]
  | v :: u :: vs, off, w, cs, hg, hl, _ => by
    have h1 := put_setCell (i := off) v hg
    simp only [List.length_cons] at hl
    obtain ⟨cs', p, hs, ht⟩ := put_setCells g t (u :: vs) (off + 1) (w.setCell ⟨g, off, none⟩ v) _ h1.row (by simp; omega) (by simp)
    refine ⟨cs', h1.two p, by rw [hs]; simp, ?_⟩
    rw [show off + (v :: u :: vs).length = off + 1 + (u :: vs).length by simp; omega, ht]
    have e : (cs.setIfInBounds off v).toList.take (off + 1) = cs.toList.take off ++ [v] := by
      apply List.ext_getElem?
      intro k
      simp only [List.getElem?_take, Array.toList_setIfInBounds, List.getElem?_append, List.length_take, Array.length_toList, List.getElem?_set]
      have : min off cs.size = off := by omega
      rw [this]
      by_cases h1 : k < off
      · simp [h1, show k < off + 1 by omega, show ¬ off = k by omega]
      · by_cases h2 : k = off
        · subst h2; simp [show k < cs.size by omega]
        · have h3 : ¬ k < off + 1 := by omega
          rw [if_neg h3, if_neg h1, List.getElem?_eq_none (by simp; omega)]
    rw [e, List.append_assoc]; rfl

theorem Has.swap {w0 w : World} {L : List Rw} {r r' : Rw} (h : Has w0 (L ++ [r']) w) (j : Nat) (e : L[j]? = some r) : Has w0 (L.set j r') w := by
  obtain ⟨R, h1, h2⟩ := list_split L j r e r'
  have a1 : Has w0 ((r :: R) ++ [r']) w := h.perm (h1.append_right _)
  have a2 : Has w0 (R ++ [r']) w := a1.sub (by simp)
  exact (a2.perm (List.perm_append_comm.trans (List.Perm.refl _))).perm h2.symm

section
variable {P : Program} {ops : Array Oper} {w0 w : World} {L : List Rw} {Q : Exit → Act → World → Prop} {o : Oper} {rest : List Oper} {a : Act}

end
end Go.Proofs.Ytoljahfofkmdaaa

/-! The walker: a call's begin and end, calls, loops, append, regions that draw their order and leave memory alone. -/
namespace Go.Proofs.Ytoljahfofkmdaaa
open Go Go.RowKit

theorem al0 : AllP [] := trivial
theorem al1 {p : Prop} (h : p) : AllP [p] := h
theorem al2 {p q : Prop} {l : List Prop} (h : p) (h2 : AllP (q :: l)) : AllP (p :: q :: l) := ⟨h, h2⟩

/-- Arguments in their slots. -/
def argL (args : Array Value) : Sl := args.toList.zipIdx.map fun x => (x.2, x.1)

section
variable {P : Program} {f : FuncId} {fn : Func} {c : Code} {args : Array Value} {w w0 : World} {R : Ending → World → Prop} {n : Nat} {L : List Ob}
theorem enter (hL : Hs w0 L w) (hf : P.funcs[f]? = some fn) (hb : fn.body = some c) (hn : fn.ntmps = n) (hs : Nat.ble args.size n = true) (h : At ⟨P, none, [], bodyPost P fn R, w0, n⟩ [] c (argL args) L) : Calls P f args w R := by
  refine calls_of_wp hf hb ?_
  have hs' : args.size ≤ n := Nat.le_of_ble_eq_true hs
  refine (wpIn_wide (n := 0)).1 (h.out _ _ ⟨fun p hp => ?_, by simp [hn]; omega, rfl⟩ hL)
  obtain ⟨x, hx, rfl⟩ := List.mem_map.1 hp
  have := List.mem_zipIdx_iff_getElem?.1 hx
  simp only at this ⊢
  have hlt : x.2 < args.size := by simpa using (List.getElem?_eq_some_iff.1 this).1
  rw [Array.getElem?_append_left hlt]
  simpa using this

def getR (l : Sl) (t : Tmp) : Value := (l.lookup t).getD undef
def resS (rs : List ResultVar) (l : Sl) : Sem Value := do
  let vs ← rs.mapM fun
    | .tmp t => pure (getR l t)
    | .cell a t => do loadVar t (← asAddr (getR l a))
  pure (if h : vs.toArray.size = 1 then vs.toArray[0] else .tuple vs.toArray)
def knownR (l : Sl) : ResultVar → Bool
  | .tmp t => (l.lookup t).isSome
  | .cell a _ => (l.lookup a).isSome
theorem list_mapM_congr {α β : Type} {f g : α → Sem β} : ∀ (l : List α), (∀ x ∈ l, f x = g x) → l.mapM f = l.mapM g
  | [], _ => rfl
  | a :: l, h => by rw [List.mapM_cons, List.mapM_cons, h a (List.mem_cons_self ..), list_mapM_congr l fun x hx => h x (List.mem_cons_of_mem _ hx)]
theorem results_res {l : Sl} {a : Act} (ha : SlR n [] l a) (hk : fn.results.toList.all (knownR l) = true) : results fn a.tmps = resS fn.results.toList l := by
  have key : ∀ t, (l.lookup t).isSome = true → a.tmps.getD t undef = getR l t := fun t ht => by
    obtain ⟨v, hv⟩ := Option.isSome_iff_exists.1 ht
    have := ha.got _ (lookup_mem hv)
    simp only at this
    simp [getR, hv, this]
  unfold results resS
  rw [Array.mapM_eq_mapM_toList]
  rw [list_mapM_congr (g := fun | .tmp t => pure (getR l t) | .cell a t => do loadVar t (← asAddr (getR l a))) fn.results.toList fun x hx => ?_]
  · simp
  · have := List.all_eq_true.1 hk x hx
    cases x with
    | tmp t => simp only; rw [key t this]
    | cell a t => simp only; rw [key a this]
def retV (P : Program) (w0 : World) (rs : List ResultVar) (l : Sl) (L : List Ob) (src : List Src) : Option (Res Value) := if rs.all (knownR l) then evS true P w0 (fun x => x) (resS rs l) ⟨L, src, 0⟩ else none
def rSeen : Option (Res Value) → Option (Value × List Prop)
  | some r => some (r.a, r.rq)
  | none => none
def rtL : Option (Res Value) → List Addr
  | some r => r.tr.map (·.1)
  | none => []
def rtR : Option (Res Value) → List Addr
  | some r => r.tr.map (·.2)
  | none => []
theorem ret_post {k : List Fr} {l : Sl} (src : List Src) (v : Value) (rq : List Prop) (h1 : rSeen (retV P w0 fn.results.toList l L src) = some (v, rq)) (h2 : rtL (retV P w0 fn.results.toList l L src) = rtR (retV P w0 fn.results.toList l L src)) (h3 : AllP rq)
    (h : ∀ w, Hs w0 L w → R (.returned v) w) (a : Act) (w : World) (ha : SlR n [] l a) (hw : Hs w0 L w) : bodyPost P fn R .ret a w := by
  cases hr : retV P w0 fn.results.toList l L src with
  | none => rw [hr] at h1; cases h1
  | some r =>
    rw [hr] at h1 h2
    simp only [rSeen, Option.some.injEq, Prod.mk.injEq] at h1
    obtain ⟨rfl, rfl⟩ := h1
    unfold retV at hr
    split at hr <;> try cases hr
    rename_i hk
    have := (evS_quiet _ _ r hr (tr_eq h2) (allP_mem h3)).2 w hw
    exact bodyPost_ret (by rw [results_res ha hk]; exact this) ha.defers (h w hw)
theorem at_return {k : List Fr} {l : Sl} (src : List Src) (v : Value) (rq : List Prop) (h1 : rSeen (retV P w0 fn.results.toList l L src) = some (v, rq)) (h2 : rtL (retV P w0 fn.results.toList l L src) = rtR (retV P w0 fn.results.toList l L src)) (h3 : AllP rq)
    (h : ∀ w, Hs w0 L w → R (.returned v) w) : At ⟨P, none, [], bodyPost P fn R, w0, n⟩ k .ret l L :=
  at_ret fun a w ha hw => ret_post (k := k) src v rq h1 h2 h3 h a w ha hw
end

/-- Which function a call enters, with what. -/
def calleeL (l : Sl) (o : Oper) : Option (FuncId × Array Value) :=
  if knownO l o then match o.op with
    | .call c => match c.callee with
      | .value x => match look l x with
        | .func (.func g) first cap => some (g, first ++ c.args.map (look l) ++ cap)
        | _ => none
      | _ => none
    | _ => none
  else none

theorem wpCalm_mono {P : Program} {ops : Array Oper} {C : (Nat → Bool) → World → Prop} {Q Q' : Act → Prop} (hq : ∀ a, Q a → Q' a) : ∀ (l : List Oper) (i : Nat) (a : Act), wpCalm P ops C Q l i a → wpCalm P ops C Q' l i a
  | [], _, _, h => hq _ h
  | o :: l, i, a, h => by
    unfold wpCalm at *
    split
    · rename_i hw; rw [if_pos hw] at h; obtain ⟨v, h1, h2⟩ := h; exact ⟨v, h1, wpCalm_mono hq l _ _ h2⟩
    · rename_i hw; rw [if_neg hw] at h; exact ⟨h.1, wpCalm_mono hq l _ _ h.2⟩

section
variable {E : Env} {k : List Fr} {l : Sl} {L : List Ob} {all os : List Oper} {o : Oper} {i : Nat} {f : FuncId} {args : Array Value}
theorem run_callee {a : Act} (ha : SlR E.n E.D l a) (hc : calleeL l o = some (f, args)) (he : ∀ args w, (callFunc f args).run E.P w = .ok (.enter f args) w) (w : World) : (execOp a.eval o).run E.P w = .ok (.enter f args) w := by
  unfold calleeL at hc
  split at hc <;> try cases hc
  rename_i hk
  rw [look_exec ha hk]
  split at hc <;> try cases hc
  rename_i c hop
  split at hc <;> try cases hc
  rename_i x hx
  split at hc <;> try cases hc
  rename_i g first cap hv
  have := he ((first ++ c.args.map (look l)) ++ cap) w
  simp only [execOp, hop, resolve, hx, hv, Deferred.ofValue, Sem.run_bind, Sem.run_pure, Result.andThen_ok, invoke]
  simpa using this

theorem callee_known {l : Sl} {o : Oper} {f : FuncId} {args : Array Value} (hc : calleeL l o = some (f, args)) : ∀ c, o.op ≠ .defer c := by
  intro c e
  unfold calleeL at hc
  rw [e] at hc
  split at hc <;> cases hc

/-- A call. -/
theorem ops_call (Post : Value → List Ob → Prop) (hw : wantL all l o = some true) (hd : okD E.n o.dst = true) (hc : calleeL l o = some (f, args)) (he : ∀ args w, (callFunc f args).run E.P w = .ok (.enter f args) w)
    (hC : ∀ w, Hs E.w0 L w → Calls E.P f args w fun e w' => ∃ v L', e = .returned v ∧ Post v L' ∧ Hs E.w0 L' w') (h : ∀ v L', Post v L' → Ops E k all os (i + 1) (putL o.dst v l) L') : Ops E k all (o :: os) i l L := by
  refine ⟨fun a w ha hs => ?_⟩
  have hg := wantL_spec ha hw
  refine wpListIn_step fun K hK => ?_
  rw [if_pos hg]
  refine ⟨fun _ _ => trivial, ?_⟩
  rw [Oper.semAt_eq _ _ _ (callee_known hc), run_callee ha hc he w]
  refine ⟨fun h => (by cases h), fen_calls ?_⟩
  refine (hC w hs).mono fun e w' ⟨v, L', he, hP, hs'⟩ => ?_
  subst he
  exact hK _ _ ((h v L' hP).out _ _ (ha.put hd v) hs')

/-- A call whose answer is one value, and that leaves all memory. -/
theorem ops_callD (v : Value) (hw : wantL all l o = some true) (hd : okD E.n o.dst = true) (hc : calleeL l o = some (f, args)) (he : ∀ args w, (callFunc f args).run E.P w = .ok (.enter f args) w)
    (hC : ∀ w, Hs E.w0 L w → Calls E.P f args w fun e w' => e = .returned v ∧ Below w.heap.size w w') (h : Ops E k all os (i + 1) (putL o.dst v l) L) : Ops E k all (o :: os) i l L := by
  refine ops_call (fun u L' => u = v ∧ L' = L) hw hd hc he (fun w hs => (hC w hs).mono fun e w' ⟨he, hb⟩ => ⟨v, L, he, ⟨rfl, rfl⟩, hs.kept hb⟩) ?_
  rintro u L' ⟨rfl, rfl⟩
  exact h

/-- A loop whose measure stands in no slot. -/
theorem wp_loopM {F : Fence} {n0 : Nat} {P : Program} {Q : Exit → Act → World → Prop} {c : Code} (J : Nat → Act → World → Prop) (round : ∀ m a w, J m a w → c.wpIn F n0 P (Exit.then (fun a' w' => ∃ m', m' < m ∧ J m' a' w') Q) a w) (m : Nat) (a : Act) (w : World) (h0 : J m a w) : (Code.loop c).wpIn F n0 P Q a w := by
  intro b k cs hro hb hr
  have key : ∀ n a w, J n a w → ∃ e a' w', Q e a' w' ∧ ArrivesIn (Machine.fenced P F) P (lone (b.atR a (.code c :: .inLoop c :: k)) cs w) b k cs e a' w' := by
    intro n
    induction n using Nat.strongRecOn with
    | _ n ih =>
      intro a w hI
      obtain ⟨e, a₁, w₁, hq, harr⟩ := round n a w hI b (.inLoop c :: k) cs hro hb hr
      cases e with
      | normal =>
        obtain ⟨m', hlt, hI₁⟩ := hq
        obtain ⟨e₂, a₂, w₂, hq₂, harr₂⟩ := ih m' hlt a₁ w₁ hI₁
        exact ⟨e₂, a₂, w₂, hq₂, .of_steps (StepsIn.trans harr (.one (fenced_calm hb hr rfl) stepR_inLoop)) harr₂⟩
      | exit id => exact ⟨_, a₁, w₁, hq, .pass (x := .inLoop c) rfl (fun _ _ => .inl (by simp)) harr⟩
      | goto l => exact ⟨_, a₁, w₁, hq, .pass (x := .inLoop c) rfl (fun _ _ => .inl (by simp)) harr⟩
      | ret => exact ⟨_, a₁, w₁, hq, .pass (x := .inLoop c) rfl (fun _ _ => .inl (by simp)) harr⟩
      | panic ch => exact ⟨_, a₁, w₁, hq, .pass (x := .inLoop c) rfl (fun _ _ => .inl (by simp)) harr⟩
      | outgrown => exact ⟨_, a₁, w₁, hq, .pass (x := .inLoop c) rfl (fun _ _ => .inl (by simp)) harr⟩
  obtain ⟨e, a', w', hq, harr⟩ := key _ a w h0
  exact ⟨e, a', w', hq, .of_steps (.one (fenced_calm hb hr rfl) stepR_loop) harr⟩

/-- What a round of a loop leaves. -/
def Again (E : Env) {α : Type} (S : α → Sl) (M : α → List Ob) (I : α → Prop) (μ : α → Nat) (x : α) : Act → World → Prop := fun a w => ∃ m, m < μ x ∧ ∃ y, μ y = m ∧ I y ∧ SlR E.n E.D (S y) a ∧ Hs E.w0 (M y) w
/-- A loop. -/
theorem at_loop {α : Type} {c : Code} (ts : List Nat) (S : α → Sl) (M : α → List Ob) (I : α → Prop) (μ : α → Nat) (x0 : α) (hl : keepL l ts = some (S x0)) (hL : L = M x0) (h0 : I x0)
    (h : ∀ x, I x → At E (.loop (Again E S M I μ x) :: k) c (S x) (M x)) : At E k (.loop c) l L := by
  refine ⟨fun a w ha hs => ?_⟩
  subst hL
  refine wp_loopM (fun m a w => ∃ x, μ x = m ∧ I x ∧ SlR E.n E.D (S x) a ∧ Hs E.w0 (M x) w) (fun m a w ⟨x, hm, hI, ha, hs⟩ => ?_) (μ x0) a w ⟨x0, rfl, h0, ha.sub (keepL_mem hl), hs⟩
  subst hm
  exact (h x hI).out a w ha hs
theorem done_round {α : Type} {S : α → Sl} {M : α → List Ob} {I : α → Prop} {μ : α → Nat} {x : α} (ts : List Nat) (y : α) (hl : keepL l ts = some (S y)) (hL : L = M y) (hI : I y) (hμ : μ y < μ x) : Done E (.loop (Again E S M I μ x) :: k) l L :=
  done_loop fun a w ha hs => by subst hL; exact ⟨μ y, hμ, y, rfl, hI, ha.sub (keepL_mem hl), hs⟩

/-- The rows are named otherwise. -/
theorem At.perm {c : Code} {L' : List Ob} (h : At E k c l L') (p : L.Perm L') : At E k c l L := ⟨fun a w ha hs => h.out a w ha (hs.perm p)⟩
theorem Ops.perm {L' : List Ob} (h : Ops E k all os i l L') (p : L.Perm L') : Ops E k all os i l L := ⟨fun a w ha hs => h.out a w ha (hs.perm p)⟩
theorem Done.perm {L' : List Ob} (h : Done E k l L') (p : L.Perm L') : Done E k l L := ⟨fun a w ha hs => h.out a w ha (hs.perm p)⟩
theorem At.drop {c : Code} {L' : List Ob} (h : At E k c l L') (p : L'.Sublist L) : At E k c l L := ⟨fun a w ha hs => h.out a w ha (hs.sub p)⟩
theorem Done.drop {L' : List Ob} (h : Done E k l L') (p : L'.Sublist L) : Done E k l L := ⟨fun a w ha hs => h.out a w ha (hs.sub p)⟩

/-! ### regions that draw their order and leave memory alone -/
structure Calm (E : Env) (k : List Fr) (all : List Oper) (os : List Oper) (i : Nat) (l : Sl) (L : List Ob) : Prop where
  out : ∀ a, SlR E.n E.D l a → wpCalm E.P all.toArray (fun _ w => Hs E.w0 L w) (fun a' => ∀ w', Hs E.w0 L w' → postF E.rd E.P E.R k .normal a' w') os i a
theorem at_calm {id : Nat} (hrd : E.rd = none) (hm : E.P.follows .mixedOrders = true) (hB : Region.lexB .any all.toArray = true) (h : Calm E k all all 0 l L) : At E k (.region id all.toArray true) l L :=
  ⟨fun a w ha hs => by
  rw [hrd]
  exact (wpIn_wide (n := 0)).2 (wp_region_calm (fun _ w => Hs E.w0 L w) hm hB hs.drew (by
    have := h.out a ha
    exact wpCalm_mono (fun a' h w' _ hw' _ => by rw [← hrd]; exact h w' hw') _ _ _ this))⟩
theorem calm_nil' (h : Done E k l L) : Calm E k all [] i l L := ⟨fun a ha => fun w' hw' => h.out a w' ha hw'⟩

theorem evOp_quiet {P : Program} {w0 : World} {γ : Nat → Nat} {n : Nat} {D : List Deferred} {a : Act} {h : Hint} {s : St} {r : OutE} (he : evOp true P w0 γ n o h s = some r) (ha : SlR n D s.l a) (ht : ∀ p ∈ r.tr, p.1 = p.2) (hq : ∀ p ∈ r.rq, p) :
    r.s.L = s.L ∧ ∃ v nx, (nx = .value v ∨ nx = .skip ∧ v = undef) ∧ SlR n D r.s.l (a.put o.dst v) ∧ ∀ w, Hs w0 s.L w → (execOp a.eval o).run P w = .ok nx w := by
  simp only [evOp] at he
  split at he <;> try cases he
  rename_i hk
  simp only [Bool.and_eq_true] at hk
  rw [look_exec ha hk.2]
  split at he
  · rename_i src
    split at he <;> try cases he
    rename_i q hq1
    split at he <;> try cases he
    · rename_i v hv
      obtain ⟨e1, e2⟩ := evS_quiet _ _ q hq1 ht hq
      exact ⟨e1, v, _, .inl rfl, ha.put hk.1 v, fun w hw => by rw [e2 w hw, hv]⟩
    · rename_i hv
      obtain ⟨e1, e2⟩ := evS_quiet _ _ q hq1 ht hq
      exact ⟨e1, undef, _, .inr ⟨rfl, rfl⟩, ha.put hk.1 undef, fun w hw => by rw [e2 w hw, hv]⟩
  · rename_i src v
    split at he <;> try cases he
    rename_i q hq1
    split at he <;> try cases he
    rename_i u hv
    obtain ⟨e1, e2⟩ := evS_quiet _ _ q hq1 ht (fun p hp => hq p (List.mem_cons_of_mem _ hp))
    have huv : u = v := hq _ (List.mem_cons_self ..)
    exact ⟨e1, v, .value v, .inl rfl, ha.put hk.1 v, fun w hw => by rw [e2 w hw, hv, huv]⟩
  · rename_i b
    split at he <;> try cases he
    rename_i op T x y U hop
    exact ⟨rfl, _, _, .inl rfl, ha.put hk.1 _, fun w _ => run_eqs hop (hq _ (List.mem_singleton.2 rfl)) w⟩
  · rename_i v
    split at he <;> try cases he
    rename_i T x lo hi mx hop
    exact ⟨rfl, _, _, .inl rfl, ha.put hk.1 _, fun w _ => run_sl hop (hq _ (List.mem_singleton.2 rfl)) w⟩
  · split at he <;> try cases he
    · rename_i S T x hop
      split at he <;> try cases he
      rename_i k k' c hT hx
      split at he <;> try cases he
      rename_i hS
      exact ⟨rfl, _, _, .inl rfl, ha.put hk.1 _, fun w _ => run_conv hop (Option.isSome_iff_exists.1 hS) hT hx (hq _ (List.mem_singleton.2 rfl)) w⟩
    rename_i op T x y U hop
    split at he <;> try cases he
    rename_i k p k' q hx hy
    split at he <;> try cases he
    rename_i hkk
    split at he <;> try cases he
    rename_i c hc
    subst hkk
    exact ⟨rfl, _, _, .inl rfl, ha.put hk.1 _, fun w _ => run_arith hop hx hy hc (hq _ (List.mem_singleton.2 rfl)) w⟩
  · rename_i b of m
    split at he <;> try cases he
    rename_i T x y hop
    split at he <;> try cases he
    rename_i e p len cap k i hu hx hy
    split at he <;> try cases he
    rename_i inf hi
    exact ⟨rfl, _, _, .inl rfl, ha.put hk.1 _, fun w _ => run_at hop hx hy hu hi (hq _ (by simp)) (hq _ (by simp)) (hq _ (by simp)) w⟩
  · split at he <;> try cases he
    rename_i op T x y U hop
    split at he <;> try cases he
    rename_i k p k' q hx hy
    split at he <;> try cases he
    rename_i hkk
    obtain ⟨rfl, hc⟩ := hkk
    exact ⟨rfl, _, _, .inl rfl, ha.put hk.1 _, fun w _ => run_cmp hop hx hy hc true (hq _ (List.mem_singleton.2 rfl)) w⟩
  · split at he <;> try cases he
    rename_i op T x y U hop
    split at he <;> try cases he
    rename_i k p k' q hx hy
    split at he <;> try cases he
    rename_i hkk
    obtain ⟨rfl, hc⟩ := hkk
    exact ⟨rfl, _, _, .inl rfl, ha.put hk.1 _, fun w _ => run_cmp hop hx hy hc false (hq _ (List.mem_singleton.2 rfl)) w⟩

theorem evOps_quiet {hs : List (Nat × Hint)} {γ : Nat → Nat} {Q : Act → Prop} (rest : List Oper) : ∀ (os : List Oper) (i : Nat) (s : St) (r : OutE) (a : Act), evOps true E.P E.w0 γ E.n all hs i os s = some r →
    SlR E.n E.D s.l a → (∀ p ∈ r.tr, p.1 = p.2) → (∀ p ∈ r.rq, p) → s.L = L →
    (∀ a', SlR E.n E.D r.s.l a' → wpCalm E.P all.toArray (fun _ w => Hs E.w0 L w) Q rest (i + os.length) a') → wpCalm E.P all.toArray (fun _ w => Hs E.w0 L w) Q (os ++ rest) i a
  | [], i, s, r, a, h, ha, _, _, _, hK => by
    simp only [evOps, Option.some.injEq] at h; subst h
    exact hK a ha
  | o :: os, i, s, r, a, h, ha, ht, hq, hL, hK => by
    simp only [evOps] at h
    split at h <;> try cases h
    · rename_i hwant
      split at h <;> try cases h
      rename_i hd
      have hg := wantL_spec ha hwant
      rw [List.cons_append]
      unfold wpCalm
      rw [if_neg (by simp [hg])]
      exact ⟨fun _ _ h _ => h, evOps_quiet rest os _ _ r _ h (ha.put hd undef) ht hq hL (fun a' h' => by have := hK a' h'; rwa [List.length_cons, Nat.add_comm os.length, ← Nat.add_assoc] at this)⟩
    · rename_i hwant
      split at h <;> try cases h
      rename_i q hev
      split at h <;> try cases h
      rename_i q' hev'
      have hg := wantL_spec ha hwant
      obtain ⟨e1, v, nx, e2, e3, e4⟩ := evOp_quiet (a := a) hev ha (fun p hp => ht p (List.mem_append_left _ hp)) (fun p hp => hq p (List.mem_append_left _ hp))
      have go := evOps_quiet rest os _ q.s q' (a.put o.dst v) hev' e3 (fun p hp => ht p (List.mem_append_right _ hp)) (fun p hp => hq p (List.mem_append_right _ hp)) (e1.trans hL) (fun a' h' => by have := hK a' h'; rwa [List.length_cons, Nat.add_comm os.length, ← Nat.add_assoc] at this)
      rw [List.cons_append]
      unfold wpCalm
      rw [if_pos hg]
      refine ⟨v, fun d w hw _ => ?_, go⟩
      unfold calmAt
      rw [e4 w (by rw [hL]; exact hw)]
      rcases e2 with rfl | ⟨rfl, rfl⟩
      · exact ⟨rfl, hw⟩
      · exact ⟨rfl, hw⟩

def seenQ (ts : List Nat) : Option OutE → Option (Sl × List Prop)
  | some r => match keepL r.s.l ts with
    | some l => some (l, r.rq)
    | none => none
  | none => none
theorem calm_run {os : List Oper} {i : Nat} (m : Nat) (hs : List (Nat × Hint)) (ts : List Nat) (l' : Sl) (rq : List Prop)
    (h1 : seenQ ts (evOps true E.P E.w0 (fun x => x) E.n all hs i (os.take m) ⟨l, L, 0⟩) = some (l', rq))
    (h2 : trL (evOps true E.P E.w0 (fun x => x) E.n all hs i (os.take m) ⟨l, L, 0⟩) = trR (evOps true E.P E.w0 (fun x => x) E.n all hs i (os.take m) ⟨l, L, 0⟩))
    (hm : (os.take m).length = m) (h3 : AllP rq) (h4 : Calm E k all (os.drop m) (i + m) l' L) : Calm E k all os i l L := by
  refine ⟨fun a ha => ?_⟩
  cases hev : evOps true E.P E.w0 (fun x => x) E.n all hs i (os.take m) ⟨l, L, 0⟩ with
  | none => rw [hev] at h1; cases h1
  | some r =>
    rw [hev] at h1 h2
    simp only [seenQ] at h1
    split at h1 <;> try cases h1
    rename_i l1 hl1
    have := evOps_quiet (E := E) (L := L) (os.drop m) (os.take m) i _ r a hev ha (tr_eq h2) (allP_mem h3) rfl
      (fun a' ha' => by rw [hm]; exact h4.out a' (ha'.sub (keepL_mem hl1)))
    rwa [List.take_append_drop] at this
/-- A call within: its answer is one value, and it leaves all memory. -/
theorem calm_callD (v : Value) (hw : wantL all l o = some true) (hd : okD E.n o.dst = true) (hc : calleeL l o = some (f, args)) (he : ∀ args w, (callFunc f args).run E.P w = .ok (.enter f args) w)
    (hC : ∀ w, Hs E.w0 L w → Calls E.P f args w fun e w' => e = .returned v ∧ Below w.heap.size w w') (h : Calm E k all os (i + 1) (putL o.dst v l) L) : Calm E k all (o :: os) i l L := by
  refine ⟨fun a ha => ?_⟩
  have hg := wantL_spec ha hw
  exact calm_callG hg v f args (run_callee ha hc he) (fun d w hw _ => (hC w hw).mono fun e w' ⟨he, hb⟩ => ⟨he, hw.kept hb⟩) (h.out _ (ha.put hd v))
/-- A whole region, reckoned. -/
theorem calm_all {id : Nat} (hs : List (Nat × Hint)) (ts : List Nat) (l' : Sl) (rq : List Prop) (hrd : E.rd = none) (hm : E.P.follows .mixedOrders = true) (hB : Region.lexB .any all.toArray = true)
    (h1 : seenQ ts (evOps true E.P E.w0 (fun x => x) E.n all hs 0 all ⟨l, L, 0⟩) = some (l', rq))
    (h2 : trL (evOps true E.P E.w0 (fun x => x) E.n all hs 0 all ⟨l, L, 0⟩) = trR (evOps true E.P E.w0 (fun x => x) E.n all hs 0 all ⟨l, L, 0⟩))
    (h3 : AllP rq) (h4 : Done E k l' L) : At E k (.region id all.toArray true) l L := by
  refine at_calm hrd hm hB (calm_run all.length hs ts l' rq ?_ ?_ ?_ h3 ?_)
  · rw [List.take_length]; exact h1
  · rw [List.take_length]; exact h2
  · rw [List.take_length]
  · rw [List.drop_length]; exact calm_nil' h4
end
/-! ### the same, told by what has turned -/
section
variable {E : Env} {k : List Fr} {l : Sl} {L : List Ob} {all os : List Oper} {i : Nat}
def restL (l : Sl) : List Nat → Sl
  | [] => []
  | t :: ts => match l.lookup t with
    | some v => (t, v) :: restL l ts
    | none => restL l ts
def ev2 (ts : List Nat) (x : Option OutE) : Option (Sl × List Ob × List Prop) × List Addr := (seen ts x, trL x)
/-- A stretch of m operations: ch: the slots that turn; ts: those that stay and are wanted; F: the blocks. -/
theorem om (m : Nat) (hs : List (Nat × Hint)) (ts : List Nat) (ch : (Nat → Nat) → Sl) (F : (Nat → Nat) → List Ob → List Ob) (rq : (Nat → Nat) → List Prop)
    (h : ∀ γ, ev2 ((ch γ).map (·.1) ++ ts) (evOps false E.P E.w0 γ E.n all hs i (os.take m) ⟨l, L, 0⟩) = (some (ch γ ++ restL l ts, F γ L, rq γ), trR (evOps false E.P E.w0 γ E.n all hs i (os.take m) ⟨l, L, 0⟩)))
    (h3 : ∀ γ, AllP (rq γ)) (h4 : ∀ γ, Ops E k all (os.drop m) (i + m) (ch γ ++ restL l ts) (F γ L)) : Ops E k all os i l L := by
  refine ⟨fun a w ha hw => ?_⟩
  let γ : Nat → Nat := fun i => w.heap.size + i
  obtain ⟨e1, e2⟩ := Prod.mk.inj (h γ)
  cases hev : evOps false E.P E.w0 γ E.n all hs i (os.take m) ⟨l, L, 0⟩ with
  | none => rw [hev] at e1; cases e1
  | some r =>
    rw [hev] at e1 e2
    simp only [seen] at e1
    split at e1 <;> try cases e1
    rename_i l1 hl1
    simp only [Option.some.injEq, Prod.mk.injEq] at e1
    obtain ⟨rfl, e3, e4⟩ := e1
    have := evOps_run (E := E) (Q := postF E.rd E.P E.R k) (os.drop m) (γ := γ) (B := w.heap.size) (fun _ => rfl) (os.take m) i _ r a w hev ha (tr_eq e2) (by rw [e4]; exact allP_mem (h3 γ)) hw (by simp)
      (fun a' w' ha' hw' => (h4 γ).out a' w' (ha'.sub (keepL_mem hl1)) (by rw [← e3]; exact hw'))
    rwa [List.take_append_drop] at this
theorem oq (m : Nat) (hs : List (Nat × Hint)) (ts : List Nat) (ch : Sl) (rq : List Prop)
    (h : ∀ γ, ev2 (ch.map (·.1) ++ ts) (evOps false E.P E.w0 γ E.n all hs i (os.take m) ⟨l, L, 0⟩) = (some (ch ++ restL l ts, L, rq), trR (evOps false E.P E.w0 γ E.n all hs i (os.take m) ⟨l, L, 0⟩)))
    (h3 : AllP rq) (h4 : Ops E k all (os.drop m) (i + m) (ch ++ restL l ts) L) : Ops E k all os i l L :=
  om m hs ts (fun _ => ch) (fun _ L => L) (fun _ => rq) h (fun _ => h3) (fun _ => h4)
theorem am {id : Nat} (hs : List (Nat × Hint)) (ts : List Nat) (ch : (Nat → Nat) → Sl) (F : (Nat → Nat) → List Ob → List Ob) (rq : (Nat → Nat) → List Prop)
    (h : ∀ γ, ev2 ((ch γ).map (·.1) ++ ts) (evOps false E.P E.w0 γ E.n all hs 0 all ⟨l, L, 0⟩) = (some (ch γ ++ restL l ts, F γ L, rq γ), trR (evOps false E.P E.w0 γ E.n all hs 0 all ⟨l, L, 0⟩)))
    (h3 : ∀ γ, AllP (rq γ)) (h4 : ∀ γ, Done E k (ch γ ++ restL l ts) (F γ L)) : At E k (.region id all.toArray false) l L := by
  refine at_ops (om all.length hs ts ch F rq ?_ h3 fun γ => ?_)
  · rw [List.take_length]; exact h
  · rw [List.drop_length]; exact ops_nil (h4 γ)
theorem aq {id : Nat} (hs : List (Nat × Hint)) (ts : List Nat) (ch : Sl) (rq : List Prop)
    (h : ∀ γ, ev2 (ch.map (·.1) ++ ts) (evOps false E.P E.w0 γ E.n all hs 0 all ⟨l, L, 0⟩) = (some (ch ++ restL l ts, L, rq), trR (evOps false E.P E.w0 γ E.n all hs 0 all ⟨l, L, 0⟩)))
    (h3 : AllP rq) (h4 : Done E k (ch ++ restL l ts) L) : At E k (.region id all.toArray false) l L :=
  am hs ts (fun _ => ch) (fun _ L => L) (fun _ => rq) h (fun _ => h3) (fun _ => h4)
def ev2Q (ts : List Nat) (x : Option OutE) : Option (Sl × List Prop) × List Addr := (seenQ ts x, trL x)
theorem cm {os : List Oper} {i : Nat} (m : Nat) (hs : List (Nat × Hint)) (ts : List Nat) (ch : Sl) (rq : List Prop)
    (h : ev2Q (ch.map (·.1) ++ ts) (evOps true E.P E.w0 (fun x => x) E.n all hs i (os.take m) ⟨l, L, 0⟩) = (some (ch ++ restL l ts, rq), trR (evOps true E.P E.w0 (fun x => x) E.n all hs i (os.take m) ⟨l, L, 0⟩)))
    (hm : (os.take m).length = m) (h3 : AllP rq) (h4 : Calm E k all (os.drop m) (i + m) (ch ++ restL l ts) L) : Calm E k all os i l L :=
  calm_run m hs (ch.map (·.1) ++ ts) _ rq (Prod.mk.inj h).1 (Prod.mk.inj h).2 hm h3 h4
theorem cq {id : Nat} (hs : List (Nat × Hint)) (ts : List Nat) (ch : Sl) (rq : List Prop) (hrd : E.rd = none) (hm : E.P.follows .mixedOrders = true) (hB : Region.lexB .any all.toArray = true)
    (h : ev2Q (ch.map (·.1) ++ ts) (evOps true E.P E.w0 (fun x => x) E.n all hs 0 all ⟨l, L, 0⟩) = (some (ch ++ restL l ts, rq), trR (evOps true E.P E.w0 (fun x => x) E.n all hs 0 all ⟨l, L, 0⟩)))
    (h3 : AllP rq) (h4 : Done E k (ch ++ restL l ts) L) : At E k (.region id all.toArray true) l L :=
  calm_all hs (ch.map (·.1) ++ ts) _ rq hrd hm hB (Prod.mk.inj h).1 (Prod.mk.inj h).2 h3 h4
end
end Go.Proofs.Ytoljahfofkmdaaa

/-! The walker: slices, read and owned; append. -/
namespace Go.Proofs.Ytoljahfofkmdaaa
open Go Go.RowKit

theorem alA : ∀ {a b : List Prop}, AllP a → AllP b → AllP (a ++ b)
  | [], _, _, h => h
  | [p], [], h, _ => h
  | [p], q :: l, h, h2 => ⟨h, h2⟩
  | p :: q :: l, b, h, h2 => ⟨h.1, alA (a := q :: l) h.2 h2⟩
theorem fit64 {n : Int} (h : -9223372036854775808 ≤ n) (h2 : n ≤ 9223372036854775807) : Fit .i64 n := ⟨h, h2⟩
/-- A block of cells. -/
abbrev bx (g : Nat) (c : Array Value) (T : TypeId) : Ob := (g, .cells c T (0, 0))

/-- The memory at b, o holds these cells. -/
def Rd (w : World) (b o : Nat) (vs : List Value) : Prop := ∀ j v, vs[j]? = some v → w.cell? ⟨b, o + j, none⟩ = some v
def cellsP (w : World) (b : Nat) : Nat → List Value → List Prop
  | _, [] => []
  | o, v :: vs => (w.cell? ⟨b, o, none⟩ = some v) :: cellsP w b (o + 1) vs
def outs (b : Nat) : Nat → List Value → List Src
  | _, [] => []
  | o, v :: vs => .out ⟨b, o, none⟩ v :: outs b (o + 1) vs
def owns (j : Nat) : Nat → Nat → List Src
  | _, 0 => []
  | o, n + 1 => .own j o :: owns j (o + 1) n
def RdA (c : Array Value) (o : Nat) (vs : List Value) : Prop := ∀ j v, vs[j]? = some v → c[o + j]? = some v
def acellsP (c : Array Value) : Nat → List Value → List Prop
  | _, [] => []
  | o, v :: vs => (c[o]? = some v) :: acellsP c (o + 1) vs
def ownps (j : Nat) : Nat → List Value → List Src
  | _, [] => []
  | o, v :: vs => .ownp j o v :: ownps j (o + 1) vs
def roomP (c : Array Value) : Nat → Nat → List Prop
  | _, 0 => []
  | o, n + 1 => (o < c.size) :: roomP c (o + 1) n

theorem rd_all {w : World} {b : Nat} : ∀ {vs : List Value} {o : Nat}, Rd w b o vs → AllP (cellsP w b o vs)
  | [], _, _ => trivial
  | v :: vs, o, h => by
    have h1 : w.cell? ⟨b, o, none⟩ = some v := h 0 v rfl
    have h2 := rd_all (w := w) (b := b) (vs := vs) (o := o + 1) (fun j u hj => by have := h (j + 1) u (by simpa using hj); rwa [show o + (j + 1) = o + 1 + j by omega] at this)
    exact alA (a := [_]) h1 h2
theorem rd_part {w : World} {b o : Nat} {vs : List Value} (h : Rd w b o vs) (f : Nat) (us : List Value) (hu : (vs.drop f).take us.length = us) : AllP (cellsP w b (o + f) us) :=
  rd_all fun j u hj => by
    have hlt := (List.getElem?_eq_some_iff.1 hj).1
    have : vs[f + j]? = some u := by
      rw [← hu, List.getElem?_take, if_pos hlt, List.getElem?_drop] at hj
      exact hj
    have := h (f + j) u this
    rwa [← Nat.add_assoc] at this
theorem rd_pre {w : World} {b o : Nat} {vs : List Value} (h : Rd w b o vs) (us : List Value) (hu : vs.take us.length = us) : AllP (cellsP w b o us) := rd_part (f := 0) h us (by simpa using hu)
theorem rda_all {c : Array Value} : ∀ {vs : List Value} {o : Nat}, RdA c o vs → AllP (acellsP c o vs)
  | [], _, _ => trivial
  | v :: vs, o, h => by
    have h1 : c[o]? = some v := h 0 v rfl
    have h2 := rda_all (c := c) (vs := vs) (o := o + 1) (fun j u hj => by have := h (j + 1) u (by simpa using hj); rwa [show o + (j + 1) = o + 1 + j by omega] at this)
    exact alA (a := [_]) h1 h2
theorem rda_part {c : Array Value} {o : Nat} {vs : List Value} (h : RdA c o vs) (f : Nat) (us : List Value) (hu : (vs.drop f).take us.length = us) : AllP (acellsP c (o + f) us) :=
  rda_all fun j u hj => by
    have hlt := (List.getElem?_eq_some_iff.1 hj).1
    have : vs[f + j]? = some u := by
      rw [← hu, List.getElem?_take, if_pos hlt, List.getElem?_drop] at hj
      exact hj
    have := h (f + j) u this
    rwa [← Nat.add_assoc] at this
theorem rda_pre {c : Array Value} {o : Nat} {vs : List Value} (h : RdA c o vs) (us : List Value) (hu : vs.take us.length = us) : AllP (acellsP c o us) := rda_part (f := 0) h us (by simpa using hu)
/-- How elements of a kind lie in memory: k cells each. -/
class Enc (α : Type) where
  enc : α → List Value
  k : Nat
  len : ∀ x, (enc x).length = k
  one : ∀ x, ∀ v ∈ enc x, v.oneCell' = true
  pos : 0 < k
instance : Enc Int := ⟨fun n => [.int .i64 n], 1, fun _ => rfl, fun _ _ h => by simp at h; subst h; rfl, by decide⟩

section
variable {α : Type} [Enc α]
theorem flat_len : ∀ l : List α, (l.flatMap Enc.enc).length = l.length * Enc.k α
  | [] => by simp
  | x :: l => by rw [List.flatMap_cons, List.length_append, Enc.len, flat_len l, List.length_cons, Nat.add_mul]; omega
theorem flat_get : ∀ (l : List α) (i : Nat) (hi : i < l.length) (j : Nat), j < Enc.k α → (l.flatMap Enc.enc)[i * Enc.k α + j]? = (Enc.enc l[i])[j]?
  | x :: l, 0, _, j, hj => by simp [List.getElem?_append, Enc.len, hj]
  | x :: l, i + 1, hi, j, hj => by
    rw [List.flatMap_cons, List.getElem?_append_right (by rw [Enc.len, Nat.add_mul]; omega), Enc.len]
    have e : (i + 1) * Enc.k α + j - Enc.k α = i * Enc.k α + j := by rw [Nat.add_mul]; omega
    rw [e, flat_get l i (by simpa using hi) j hj]
    rfl

/-- A slice (nil, or at p) reads as l. -/
structure Sv (w : World) (p : Option Addr) (l : List α) : Prop where
  addr : l ≠ [] → ∃ b o, p = some ⟨b, o, none⟩
  cell : ∀ b o, p = some ⟨b, o, none⟩ → ∀ i (h : i < l.length), Rd w b (o + i * Enc.k α) (Enc.enc l[i])
variable {w w0 w1 : World} {p : Option Addr} {l : List α}
theorem Rd.kept {b o : Nat} {vs : List Value} (h : Rd w b o vs) (hb : Below w.heap.size w w1) : Rd w1 b o vs := fun j v hj => by
  have := h j v hj
  have hlt : b < w.heap.size := by
    rcases Nat.lt_or_ge b w.heap.size with h | h
    · exact h
    · simp [World.cell?, Array.getElem?_eq_none h] at this
  exact (hb.cell (p := ⟨b, o + j, none⟩) hlt).trans this
theorem Sv.kept (h : Sv w p l) (hb : Below w.heap.size w w1) : Sv w1 p l := ⟨h.addr, fun b o e i hi => (h.cell b o e i hi).kept hb⟩
theorem Sv.get {b o i : Nat} {x : α} (h : Sv w (some ⟨b, o, none⟩) l) (hx : l[i]? = some x) : Rd w b (o + i * Enc.k α) (Enc.enc x) := by
  obtain ⟨hi, rfl⟩ := List.getElem?_eq_some_iff.1 hx
  exact h.cell b o rfl i hi
theorem Sv.nil : Sv w p ([] : List α) := ⟨fun h => absurd rfl h, fun _ _ _ _ h => by simp at h⟩
theorem Sv.pos (h : Sv w p l) {i : Nat} (hi : i < l.length) : ∃ b o, p = some ⟨b, o, none⟩ := h.addr fun e => by subst e; simp at hi

/-- A slice of one's own: nil, or the one block of Y. -/
def SlO (T : TypeId) (Y : List Ob) (p : Option Addr) (n cap : Nat) (l : List α) : Prop :=
  (Y = [] ∧ p = none ∧ n = 0 ∧ cap = 0 ∧ l = []) ∨ ∃ g cs, Y = [(g, .cells cs T (0, 0))] ∧ p = some ⟨g, 0, none⟩ ∧ n = l.length ∧ OwnS (Enc.k α) (l.flatMap Enc.enc) n cap cs
theorem SlO.nil {T : TypeId} : SlO T [] none 0 0 ([] : List α) := .inl ⟨rfl, rfl, rfl, rfl, rfl⟩
theorem SlO.len {T : TypeId} {Y : List Ob} {n cap : Nat} (h : SlO T Y p n cap l) : n = l.length := by
  rcases h with ⟨_, _, h, _, rfl⟩ | ⟨g, cs, _, _, h, _⟩
  · simpa using h
  · exact h
theorem OwnS.rda {n cap : Nat} {cs : Array Value} (h : OwnS (Enc.k α) (l.flatMap Enc.enc) n cap cs) (hn : n = l.length) (i : Nat) (hi : i < l.length) : RdA cs (i * Enc.k α) (Enc.enc l[i]) := fun j v hj => by
  have hjk : j < Enc.k α := by rw [← Enc.len l[i]]; exact (List.getElem?_eq_some_iff.1 hj).1
  have hm : (i + 1) * Enc.k α ≤ n * Enc.k α := Nat.mul_le_mul_right _ (by omega)
  rw [Nat.add_mul] at hm
  rw [h.get _ (by omega), flat_get l i hi j hjk, hj]
theorem SlO.at {T : TypeId} {Y R : List Ob} {n cap : Nat} (h : SlO T Y p n cap l) (H : Hs w0 (Y ++ R) w) : Sv w p l := by
  rcases h with ⟨rfl, rfl, _, _, rfl⟩ | ⟨g, cs, rfl, rfl, hn, hO⟩
  · exact Sv.nil
  · have hg : w.heap[g]? = some (.cells cs T (0, 0)) := H.rows (g, .cells cs T (0, 0)) (by simp)
    refine ⟨fun _ => ⟨g, 0, rfl⟩, fun b o e i hi j v hj => ?_⟩
    simp at e
    obtain ⟨rfl, rfl⟩ := e
    have := hO.rda hn i hi j v hj
    rw [Nat.zero_add, cell_own hg]
    exact this
end

/-- What append asks of its slice's type. -/
def elemB (P : Program) (t T : TypeId) (k by_ : Nat) : Bool := match P.underlying t with
  | some (.slice T') => T' == T && (match P.info? T with
    | some i => (match i.zero with
      | some z => z.cells.size == i.size
      | none => false) && i.size == k && i.bytes == by_
    | none => false)
  | _ => false

theorem turn_put {g : Nat} {cs : Array Value} {t : TypeId} {w w1 : World} (hp : Put g cs t w w1) : Turn g (.cells cs t (0, 0)) w w1 := by
  have := hp.below 0 w (Nat.zero_le _) (Below.refl _ _)
  exact ⟨hp.row, hp.rest, hp.size, this.os, this.tape, this.output, this.drawn⟩

section
variable {P : Program} {w w0 : World} {t tx ty T : TypeId} {k by_ : Nat}
theorem elemB_spec (h : elemB P t T k by_ = true) : P.underlying t = some (.slice T) ∧ ∃ i z, P.info? T = some i ∧ i.zero = some z ∧ z.cells.size = i.size ∧ i.size = k ∧ i.bytes = by_ := by
  unfold elemB at h
  split at h <;> try cases h
  rename_i T' hu
  simp only [Bool.and_eq_true, beq_iff_eq] at h
  obtain ⟨rfl, h⟩ := h
  split at h <;> try cases h
  rename_i i hi
  simp only [Bool.and_eq_true, beq_iff_eq] at h
  obtain ⟨⟨h1, h2⟩, h3⟩ := h
  split at h1 <;> try cases h1
  rename_i z hz
  exact ⟨hu, i, z, hi, hz, by simpa using h1, h2, h3⟩

/-- append onto one's own slice. -/
theorem run_appO {α : Type} [Enc α] (hE : elemB P t T (Enc.k α) by_ = true) {Y R : List Ob} {p : Option Addr} {n cap m : Nat} {l l2 : List α} {y : Value} (H : Hs w0 (Y ++ R) w) (hO : SlO T Y p n cap l) (hs : Go.Src P (Enc.k α) tx y m (l2.flatMap Enc.enc) w) (hm : m = l2.length)
    (hmax : n + m ≤ maxLen) (hb : (n + m) * by_ ≤ 140737488355328) :
    ∃ p' cap' w' Y', (Builtin.append_ #[t, tx] ty #[.slice p n cap, y]).run P w = .ok (.slice p' (n + m) cap') w' ∧ SlO T Y' p' (n + m) cap' (l ++ l2) ∧ Hs w0 (Y' ++ R) w' := by
  obtain ⟨ht, i, z, hi, hz, hzs, hk, hby⟩ := elemB_spec hE
  have h0 : 0 < i.size := by rw [hk]; exact Enc.pos
  rw [← hk] at hs
  subst hby
  have hlen := hs.newsLen
  rcases hO with ⟨rfl, rfl, rfl, rfl, rfl⟩ | ⟨g, cs, rfl, rfl, hn, hO⟩
  · by_cases hm0 : m = 0
    · subst hm0
      obtain rfl : l2 = [] := List.length_eq_zero_iff.1 hm.symm
      refine ⟨none, 0, w, [], ?_, SlO.nil, H⟩
      rcases hs.kind with ⟨e', hkd⟩ | hkd <;> simp [Builtin.append_, run_underlying ht, run_underlying hkd, sizeOf, typeInfo, hi, hs.len, hs.cells]
    · have hfit := growslice_fits (need := 0 + m) (old := 0) (bytes := i.bytes) (by omega) hb
      refine ⟨_, _, _, [(w.heap.size, _)], run_append_grow_src w t tx ty T i z ht hi hz none 0 0 [] (run_firstCells_none _ _ _ _ _) _ m _ hs (by omega) (by simp only [maxLen] at hmax; omega) hfit, .inr ⟨_, _, rfl, rfl, by simp [hm], ⟨?_, grownCap_ge w (0 + m) 0 T, grownCap_le_maxLen w (0 + m) 0 T hmax, ?_, ?_⟩⟩, H.drew.cons _⟩
      · rw [List.nil_append, hlen, ← hk, Nat.zero_add]
      · have hge := grownCap_ge w (0 + m) 0 T
        rw [Array.size_append, size_zeroCells, ← hk]
        simp only [List.size_toArray, List.nil_append, hlen, hzs, ← Nat.add_mul]
        congr 1; omega
      · rw [Array.toList_append, ← hk]
        simp only [List.toList_toArray]
        rw [List.take_append_of_le_length (by simp [hlen]), List.take_of_length_le (by simp [hlen])]
        simp
  · rw [← hk] at hO
    have hrow : IsR w g cs T := H.rows (g, _) (by simp)
    by_cases hroom : n + m ≤ cap
    · have hsz : (n + m) * i.size ≤ cap * i.size := Nat.mul_le_mul_right _ hroom
      have hadd : (n + m) * i.size = n * i.size + m * i.size := Nat.add_mul ..
      by_cases hnew : l2 = []
      · subst hnew
        have hm0 : m = 0 := by simpa using hm
        subst hm0
        refine ⟨_, _, w, [(g, _)], run_append_room_src w t tx ty T i ht hi g 0 n cap _ 0 _ hs hroom (by simp) (by simp), .inr ⟨g, cs, rfl, rfl, by simpa using hn, by simpa [hk] using hO⟩, H⟩
      · have hne : l2.flatMap Enc.enc ≠ [] := fun e => hnew (by
          rw [e] at hlen
          have : m = 0 := by
            rcases Nat.mul_eq_zero.1 hlen.symm with h1 | h1
            · exact h1
            · omega
          rw [hm] at this
          exact List.length_eq_zero_iff.1 this)
        obtain ⟨cs', hp, hs1, ht1⟩ := put_setCells g T (l2.flatMap Enc.enc) (0 + n * i.size) w cs hrow (by rw [hO.csz, hlen]; omega) hne
        refine ⟨_, _, _, [(g, _)], run_append_room_src w t tx ty T i ht hi g 0 n cap _ m _ hs hroom (fun j hj => ?_) (fun j _ => hrow.froz _), .inr ⟨g, cs', rfl, rfl, by simp [hn, hm], ?_⟩, H.turn 0 rfl (turn_put hp)⟩
        · rw [hrow.cell, Array.getElem?_eq_getElem (by rw [hO.csz]; omega)]; rfl
        · rw [← hk]
          refine ⟨by rw [List.flatMap_append, List.length_append, hO.len, hlen, hadd], hroom, hO.max, hs1.trans hO.csz, ?_⟩
          rw [hadd, ← hlen, ← Nat.zero_add (n * i.size), ht1, Nat.zero_add, hO.pre, List.flatMap_append]
    · have hfit := growslice_fits (need := n + m) (old := cap) (bytes := i.bytes) (by omega) hb
      refine ⟨_, _, _, [(w.heap.size, _)], run_append_grow_src w t tx ty T i z ht hi hz _ n cap _ (run_firstCells_some _ i.size n ⟨g, 0, none⟩ n cap _ hO.len (fun j v hj => ?_)) _ m _ hs (by omega) (by simp only [maxLen] at hmax; omega) hfit, .inr ⟨_, _, rfl, rfl, by simp [hn, hm], ⟨?_, grownCap_ge w (n + m) cap T, grownCap_le_maxLen w (n + m) cap T hmax, ?_, ?_⟩⟩, ((H.sub (List.sublist_cons_self ..)).drew.cons _)⟩
      · have hkl : j < n * i.size := by rw [← hO.len]; exact (List.getElem?_eq_some_iff.1 hj).1
        have hadd : (⟨g, 0, none⟩ : Addr).add j = ⟨g, j, none⟩ := by unfold Addr.add; split <;> simp_all
        rw [hadd]
        show w.drew.cell? _ = _
        rw [World.cell?_drew, hrow.cell, hO.get j hkl, hj]
      · rw [List.flatMap_append, List.length_append, hO.len, hlen, ← hk, Nat.add_mul]
      · have hge := grownCap_ge w (n + m) cap T
        rw [Array.size_append, size_zeroCells, ← hk]
        simp only [List.size_toArray, List.length_append, hO.len, hlen, hzs, ← Nat.add_mul]
        congr 1; omega
      · rw [Array.toList_append, List.flatMap_append, ← hk]
        simp only [List.toList_toArray]
        rw [List.take_append_of_le_length (by rw [List.length_append, hO.len, hlen, ← Nat.add_mul]; exact Nat.le_refl _), List.take_of_length_le (by rw [List.length_append, hO.len, hlen, ← Nat.add_mul]; exact Nat.le_refl _)]
end

section
variable {E : Env} {k : List Fr} {l : Sl} {L : List Ob} {all os : List Oper} {o : Oper} {i : Nat}
theorem src_sv {α : Type} [Enc α] {P : Program} {tx e : TypeId} {w : World} {p : Option Addr} {cap : Nat} {l2 : List α} (hu : P.underlying tx = some (.slice e)) (h : Sv w p l2) : Go.Src P (Enc.k α) tx (.slice p l2.length cap) l2.length (l2.flatMap Enc.enc) w := by
  by_cases hl : l2 = []
  · subst hl
    cases p with
    | none => exact Go.Src.ofNil _ hu _
    | some q => exact Go.Src.ofSlice _ hu q 0 cap [] (by simp) (fun j u hj => by simp at hj) (fun _ h => by cases h)
  · obtain ⟨b, o, rfl⟩ := h.addr hl
    refine Go.Src.ofSlice _ hu ⟨b, o, none⟩ _ cap _ (flat_len l2) (fun j u hj => ?_) (fun u hu => ?_)
    · have hlt : j < l2.length * Enc.k α := by rw [← flat_len]; exact (List.getElem?_eq_some_iff.1 hj).1
      have hk : 0 < Enc.k α := Enc.pos
      have hi : j / Enc.k α < l2.length := Nat.div_lt_of_lt_mul (by rwa [Nat.mul_comm])
      have hjm : j % Enc.k α < Enc.k α := Nat.mod_lt _ hk
      have ej : j / Enc.k α * Enc.k α + j % Enc.k α = j := by rw [Nat.mul_comm]; exact Nat.div_add_mod ..
      have h2 := flat_get l2 _ hi _ hjm
      rw [ej, hj] at h2
      have h3 := h.cell b o rfl _ hi (j % Enc.k α) u h2.symm
      have e : (⟨b, o, none⟩ : Addr).add j = ⟨b, o + j, none⟩ := by unfold Addr.add; split <;> simp_all
      rw [e]
      rwa [Nat.add_assoc, ej] at h3
    · obtain ⟨x, _, hx⟩ := List.mem_flatMap.1 hu
      exact Enc.one x u hx

theorem mv0 {y : Ob} {A R : List Ob} : (y :: (A ++ R)).Perm (A ++ ([y] ++ R)) := List.perm_middle.symm
theorem mvE {y : Ob} {L A R : List Ob} (h : L = y :: (A ++ R)) : L.Perm (A ++ ([y] ++ R)) := h ▸ mv0
/-- append onto a slice of one's own. -/
theorem ops_append {α : Type} [Enc α] (A Y R : List Ob) (hL : L.Perm (A ++ (Y ++ R))) {x y : Operand} {t tx T : TypeId} {by_ : Nat} (ho : o.op = .call { callee := .builtin .append, args := #[x, y], argTypes := #[t, tx] })
    (hw : wantL all l o = some true) (hd : (okD E.n o.dst && knownO l o) = true) {p : Option Addr} {n cap m : Nat} {yv : Value} (hx : look l x = .slice p n cap) (hy : look l y = yv) (hE : elemB E.P t T (Enc.k α) by_ = true) (xs ys : List α) (hO : SlO T Y p n cap xs)
    (hs : ∀ w, Hs E.w0 L w → Go.Src E.P (Enc.k α) tx yv m (ys.flatMap Enc.enc) w) (hm : m = ys.length) (hmax : n + m ≤ maxLen) (hb : (n + m) * by_ ≤ 140737488355328)
    (h : ∀ Y' p' cap', SlO T Y' p' (n + m) cap' (xs ++ ys) → Ops E k all os (i + 1) (putL o.dst (.slice p' (n + m) cap') l) (A ++ (Y' ++ R))) : Ops E k all (o :: os) i l L := by
  refine ⟨fun a w ha hw' => ?_⟩
  simp only [Bool.and_eq_true] at hd
  have hg := wantL_spec ha hw
  refine wpListIn_step fun K hK => ?_
  rw [if_pos hg]
  have H : Hs E.w0 (Y ++ (A ++ R)) w := (hw'.perm hL).perm (by rw [← List.append_assoc, ← List.append_assoc]; exact List.perm_append_comm.append_right R)
  obtain ⟨p', cap', w', Y', hr, hO', H'⟩ := run_appO (ty := o.type) hE H hO (hs w hw') hm hmax hb
  refine ⟨fun _ _ => trivial, ?_⟩
  rw [Oper.semAt_eq _ _ _ (fun c e => by rw [ho] at e; cases e), look_exec ha hd.2]
  have e : (execOp (look l) o).run E.P w = .ok (.value (.slice p' (n + m) cap')) w' := by
    simp [execOp, ho, resolve, invoke, builtin, hx, hy, hr]
  rw [e]
  exact hK _ _ ((h Y' p' cap' hO').out _ _ (ha.put hd.1 _) (H'.perm (by rw [← List.append_assoc, ← List.append_assoc]; exact List.perm_append_comm.append_right R)))
theorem src_svn {α : Type} [Enc α] {P : Program} {tx e : TypeId} {w : World} {p : Option Addr} {cap m : Nat} {l2 : List α} (hu : P.underlying tx = some (.slice e)) (h : Sv w p l2) (hm : m = l2.length) : Go.Src P (Enc.k α) tx (.slice p m cap) m (l2.flatMap Enc.enc) w := by
  subst hm
  exact src_sv hu h
theorem owns_lit {α : Type} [Enc α] {xs : List α} {n : Nat} {cs : Array Value} (hn : n = xs.length) (hc : cs.toList = xs.flatMap Enc.enc) (hm : n ≤ maxLen) : OwnS (Enc.k α) (xs.flatMap Enc.enc) n n cs := by
  subst hn
  refine ⟨flat_len xs, Nat.le_refl _, hm, by rw [← Array.length_toList, hc, flat_len], ?_⟩
  rw [hc, List.take_of_length_le (by rw [flat_len]; exact Nat.le_refl _)]
theorem SlO.lit {α : Type} [Enc α] {T : TypeId} {xs : List α} {n g : Nat} {cs : Array Value} (hn : n = xs.length) (hc : cs.toList = xs.flatMap Enc.enc) (hm : n ≤ maxLen) : SlO T [bx g cs T] (some ⟨g, 0, none⟩) n n xs := .inr ⟨g, cs, rfl, rfl, hn, owns_lit hn hc hm⟩
theorem SlO.atN {α : Type} [Enc α] {T : TypeId} {A Y R : List Ob} {p : Option Addr} {n cap : Nat} {l : List α} {w0 w : World} (h : SlO T Y p n cap l) (H : Hs w0 (A ++ (Y ++ R)) w) : Sv w p l :=
  h.at (R := A ++ R) (H.perm (by rw [← List.append_assoc, ← List.append_assoc]; exact List.perm_append_comm.append_right R))
theorem SlO.rowOf {α : Type} [Enc α] {T : TypeId} {Y : List Ob} {p : Option Addr} {n cap i : Nat} {l : List α} (h : SlO T Y p n cap l) (hi : i < l.length) : ∃ g cs, Y = [bx g cs T] ∧ p = some ⟨g, 0, none⟩ ∧ OwnS (Enc.k α) (l.flatMap Enc.enc) n cap cs := by
  rcases h with ⟨_, _, _, _, rfl⟩ | ⟨g, cs, h1, h2, _, h4⟩
  · simp at hi
  · exact ⟨g, cs, h1, h2, h4⟩
theorem Hs.tailN {w0 w : World} {L : List Ob} (h : Hs w0 L w) (n : Nat) : Hs w0 (L.drop n) w := h.sub (List.drop_sublist _ _)
/-- A slice of one's own that a call has made is laid behind the first n blocks. -/
theorem Hs.join {w0 w w' : World} {L Y : List Ob} (h : Hs w0 L w) (hb : Below w.heap.size w w') (hY : Hs w Y w') (n : Nat) : Hs w0 (L.take n ++ (Y ++ L.drop n)) w' := by
  have h1 := h.kept hb
  have : Hs w0 (Y ++ L) w' := by
    refine ⟨fun r hr => ?_, fun r hr => ?_, ?_, h1.below⟩
    · rcases List.mem_append.1 hr with hr | hr
      · exact hY.rows r hr
      · exact h1.rows r hr
    · rcases List.mem_append.1 hr with hr | hr
      · exact Nat.le_trans h.below.size (hY.low r hr)
      · exact h1.low r hr
    · rw [List.map_append, List.nodup_append]
      refine ⟨hY.apart, h1.apart, fun a ha b hb' e => ?_⟩
      obtain ⟨r, hr1, rfl⟩ := List.mem_map.1 ha
      obtain ⟨s, hs1, rfl⟩ := List.mem_map.1 hb'
      have := hs_lt (h.rows s hs1)
      have := hY.low r hr1
      omega
  refine this.perm ?_
  have e : L = L.take n ++ L.drop n := (List.take_append_drop n L).symm
  calc Y ++ L = Y ++ (L.take n ++ L.drop n) := by rw [← e]
    _ = (Y ++ L.take n) ++ L.drop n := (List.append_assoc ..).symm
    List.Perm _ ((L.take n ++ Y) ++ L.drop n) := List.perm_append_comm.append_right _
    _ = L.take n ++ (Y ++ L.drop n) := List.append_assoc ..
theorem sv_row {α : Type} [Enc α] {T : TypeId} {w : World} {g : Nat} {cs : Array Value} {xs : List α} (hg : w.heap[g]? = some (.cells cs T (0, 0))) (hc : cs.toList = xs.flatMap Enc.enc) : Sv w (some ⟨g, 0, none⟩) xs :=
  ⟨fun _ => ⟨g, 0, rfl⟩, fun b o e i hi j v hj => by
    simp at e
    obtain ⟨rfl, rfl⟩ := e
    have hjk : j < Enc.k α := by rw [← Enc.len xs[i]]; exact (List.getElem?_eq_some_iff.1 hj).1
    have := flat_get xs i hi j hjk
    rw [hj, ← hc] at this
    rw [Nat.zero_add, cell_own hg]
    simpa using this⟩
end
end Go.Proofs.Ytoljahfofkmdaaa

/-! The walker: regions that draw their order and act. What only reckons is taken first; what acts comes alone, or each that may come up is tried. -/
namespace Go.Proofs.Ytoljahfofkmdaaa
open Go Go.RowKit

/-- A step that asks no world. -/
def evP (P : Program) {α : Type} : Sem α → Option α
  | .pure a => some a
  | .program k => evP P (k P)
  | .mark _ k => evP P k
  | .choose q k => if q.forced then evP P (k 0) else none
  | _ => none
theorem evP_run {P : Program} {α : Type} : ∀ (s : Sem α) (r : α), evP P s = some r → ∀ w, s.run P w = .ok r w := by
  intro s
  induction s with
  | pure a => intro r h w; simp only [evP, Option.some.injEq] at h; subst h; rfl
  | program k ih => intro r h w; exact ih P r h w
  | mark m k ih => intro r h w; exact ih r h w
  | choose q k ih =>
    intro r h w
    simp only [evP] at h
    split at h <;> try cases h
    rename_i hf
    simp only [Sem.run, hf, if_true]
    exact ih 0 r h w
  | _ => intro r h; simp [evP] at h

/-- No call of a function. -/
def calm1 (o : Oper) : Bool := match o.op with
  | .call c => match c.callee with
    | .builtin _ => true
    | _ => false
  | _ => true
theorem about_calm {P : Program} {w : World} {ρ : Operand → Value} {o : Oper} (h : calm1 o = true) : o.about P w ρ = none := by
  unfold calm1 at h
  unfold Oper.about
  split at h
  · rename_i c hop
    split at h <;> try cases h
    rename_i b hc
    rw [hop]
    simp [resolve, hc, Target.leads]
  · rename_i hop
    cases ho : o.op <;> simp only [ho] at hop ⊢
    exact absurd rfl (hop _)

/-- One operation that asks no world. -/
def evT (P : Program) (n : Nat) (o : Oper) (h : Hint) (l : Sl) : Option (Sl × List Prop) :=
  if calm1 o then match h with
    | .go [] => if okD n o.dst && knownO l o then match evP P (execOp (look l) o) with
      | some (.value v) => some (putL o.dst v l, [])
      | _ => none else none
    | .go _ => none
    | .is _ _ => none
    | h => match evOp true P default (fun x => x) n o h ⟨l, [], 0⟩ with
      | some r => some (r.s.l, r.rq)
      | none => none
  else none

section
variable {P : Program} {n : Nat} {D : List Deferred} {o : Oper} {l : Sl} {a : Act}
theorem evT_run {h : Hint} {r : Sl × List Prop} (he : evT P n o h l = some r) (ha : SlR n D l a) (hq : ∀ p ∈ r.2, p) : ∃ v, (∀ w, (execOp a.eval o).run P w = .ok (.value v) w) ∧ SlR n D r.1 (a.put o.dst v) ∧ calm1 o = true := by
  simp only [evT] at he
  split at he <;> try cases he
  rename_i hc
  split at he
  · split at he <;> try cases he
    rename_i hk
    simp only [Bool.and_eq_true] at hk
    split at he <;> try cases he
    rename_i v hv
    exact ⟨v, fun w => by rw [look_exec ha hk.2]; exact evP_run _ _ hv w, ha.put hk.1 v, hc⟩
  · cases he
  · cases he
  · rename_i hn1 hn2 hn3
    split at he <;> try cases he
    rename_i q hev
    -- the hints that reckon: each by its own law, in whatever world
    simp only [evOp] at hev
    split at hev <;> try cases hev
    rename_i hk
    simp only [Bool.and_eq_true] at hk
    split at hev
    · rename_i src
      cases src with
      | nil => exact absurd rfl (hn1 ·)
      | cons s t => exact absurd rfl (hn2 _ ·)
    · rename_i src v
      exact absurd rfl (hn3 _ _ ·)
    · rename_i b
      split at hev <;> try cases hev
      rename_i op T x y U hop
      exact ⟨_, fun w => by rw [look_exec ha hk.2]; exact run_eqs hop (hq _ (List.mem_singleton.2 rfl)) w, ha.put hk.1 _, hc⟩
    · rename_i v
      split at hev <;> try cases hev
      rename_i T x lo hi mx hop
      exact ⟨_, fun w => by rw [look_exec ha hk.2]; exact run_sl hop (hq _ (List.mem_singleton.2 rfl)) w, ha.put hk.1 _, hc⟩
    · split at hev <;> try cases hev
      · rename_i S T x hop
        split at hev <;> try cases hev
        rename_i k k' c hT hx
        split at hev <;> try cases hev
        rename_i hS
        exact ⟨_, fun w => by rw [look_exec ha hk.2]; exact run_conv hop (Option.isSome_iff_exists.1 hS) hT hx (hq _ (List.mem_singleton.2 rfl)) w, ha.put hk.1 _, hc⟩
      rename_i op T x y U hop
      split at hev <;> try cases hev
      rename_i k p k' q hx hy
      split at hev <;> try cases hev
      rename_i hkk
      split at hev <;> try cases hev
      rename_i c hcc
      subst hkk
      exact ⟨_, fun w => by rw [look_exec ha hk.2]; exact run_arith hop hx hy hcc (hq _ (List.mem_singleton.2 rfl)) w, ha.put hk.1 _, hc⟩
    · rename_i b of m
      split at hev <;> try cases hev
      rename_i T x y hop
      split at hev <;> try cases hev
      rename_i e p len cap k i hu hx hy
      split at hev <;> try cases hev
      rename_i inf hi
      exact ⟨_, fun w => by rw [look_exec ha hk.2]; exact run_at hop hx hy hu hi (hq _ (by simp)) (hq _ (by simp)) (hq _ (by simp)) w, ha.put hk.1 _, hc⟩
    · split at hev <;> try cases hev
      rename_i op T x y U hop
      split at hev <;> try cases hev
      rename_i k p k' q hx hy
      split at hev <;> try cases hev
      rename_i hkk
      obtain ⟨rfl, hcc⟩ := hkk
      exact ⟨_, fun w => by rw [look_exec ha hk.2]; exact run_cmp hop hx hy hcc true (hq _ (List.mem_singleton.2 rfl)) w, ha.put hk.1 _, hc⟩
    · split at hev <;> try cases hev
      rename_i op T x y U hop
      split at hev <;> try cases hev
      rename_i k p k' q hx hy
      split at hev <;> try cases hev
      rename_i hkk
      obtain ⟨rfl, hcc⟩ := hkk
      exact ⟨_, fun w => by rw [look_exec ha hk.2]; exact run_cmp hop hx hy hcc false (hq _ (List.mem_singleton.2 rfl)) w, ha.put hk.1 _, hc⟩
end

/-- Operations is, in this order: each may come up, asks no world, and can be taken first. -/
def evTs (P : Program) (n : Nat) (all : List Oper) (hs : List (Nat × Hint)) : List Nat → Array Bool → Sl → Option (Array Bool × Sl × List Prop)
  | [], listed, l => some (listed, l, [])
  | i :: is, listed, l => match all[i]? with
    | none => none
    | some o => if (Region.ready .any all.toArray listed).contains i && Region.free .any all.toArray listed i then match wantL all l o with
        | none => none
        | some false => if okD n o.dst && calm1 o then evTs P n all hs is (listed.setIfInBounds i true) (putL o.dst undef l) else none
        | some true => match evT P n o ((hs.lookup i).getD (.go [])) l with
          | none => none
          | some r => match evTs P n all hs is (listed.setIfInBounds i true) r.1 with
            | none => none
            | some r2 => some (r2.1, r2.2.1, r.2 ++ r2.2.2)
      else none

/-- A panic's goal does not look at the slots. -/
def PanicB (R : Exit → Act → World → Prop) : Prop := ∀ c (a a' : Act) w, a.defers = a'.defers → R (.panic c) a w → R (.panic c) a' w
theorem panic_body {P : Program} {fn : Func} {R : Ending → World → Prop} : PanicB (bodyPost P fn R) := fun c a a' w h hr => ⟨h ▸ hr.1, hr.2⟩
theorem panic_post {rd : Option Nat} {P : Program} {R : Exit → Act → World → Prop} (h : PanicB R) : ∀ k, PanicB (postF rd P R k)
  | [] => h
  | .seq _ :: k => panic_post h k
  | .block _ :: k => panic_post h k
  | .loop _ :: k => panic_post h k

structure Any (E : Env) (k : List Fr) (all : List Oper) (f : Nat) (listed : Array Bool) (l : Sl) (L : List Ob) : Prop where
  out : ∀ a w, SlR E.n E.D l a → Hs E.w0 L w → wpAnyIn (fen E.rd) 0 E.P .any all.toArray (postF E.rd E.P E.R k) f listed a w

section
variable {E : Env} {k : List Fr} {l : Sl} {L : List Ob} {all : List Oper} {listed : Array Bool} {f : Nat}
theorem evTs_run (hrd : E.rd = none) (hp : PanicB E.R) (hsel : Region.noSelect all.toArray = true) {hs : List (Nat × Hint)} : ∀ (is : List Nat) (listed : Array Bool) (l : Sl) (r : Array Bool × Sl × List Prop) (a : Act) (w : World), evTs E.P E.n all hs is listed l = some r → SlR E.n E.D l a → (∀ p ∈ r.2.2, p) →
    (∀ a', SlR E.n E.D r.2.1 a' → wpAnyIn (fen E.rd) 0 E.P .any all.toArray (postF E.rd E.P E.R k) f r.1 a' w) → wpAnyIn (fen E.rd) 0 E.P .any all.toArray (postF E.rd E.P E.R k) (f + is.length) listed a w
  | [], listed, l, r, a, w, h, ha, _, hK => by
    simp only [evTs, Option.some.injEq] at h; subst h
    exact hK a ha
  | i :: is, listed, l, r, a, w, h, ha, hq, hK => by
    simp only [evTs] at h
    split at h <;> try cases h
    rename_i o hio
    split at h <;> try cases h
    rename_i hrf
    simp only [Bool.and_eq_true] at hrf
    have hio' : all.toArray[i]? = some o := by simpa using hio
    have hQ : ∀ (v : Value) c a w, postF E.rd E.P E.R k (.panic c) (a.put o.dst v) w → postF E.rd E.P E.R k (.panic c) a w := fun v c a w h => panic_post hp k c (a.put o.dst v) a w (by unfold Act.put; split <;> rfl) h
    rw [show f + (i :: is).length = (f + is.length) + 1 by simp; omega]
    split at h <;> try cases h
    · rename_i hwant
      split at h <;> try cases h
      rename_i hd
      simp only [Bool.and_eq_true] at hd
      have hg := wantL_spec ha hwant
      refine wpAnyIn_first (by rw [hrd]; rfl) hio' (Region.noSelect_spec hsel) (hQ undef) _ _ _ _ (Region.free_spec hio' hrf.2) (by simpa using hrf.1) ⟨.inr ⟨hg, rfl⟩, fun w => about_calm hd.2⟩ ?_
      exact evTs_run hrd hp hsel is _ _ r _ w h (ha.put hd.1 undef) hq hK
    · rename_i hwant
      split at h <;> try cases h
      rename_i q hev
      split at h <;> try cases h
      rename_i r2 hev'
      have hg := wantL_spec ha hwant
      obtain ⟨v, h1, h2, h3⟩ := evT_run hev ha (fun p hp => hq p (List.mem_append_left _ hp))
      refine wpAnyIn_first (by rw [hrd]; rfl) hio' (Region.noSelect_spec hsel) (hQ v) _ _ _ _ (Region.free_spec hio' hrf.2) (by simpa using hrf.1) ⟨.inl ⟨hg, h1⟩, fun w => about_calm h3⟩ ?_
      exact evTs_run hrd hp hsel is _ _ r2 _ w hev' h2 (fun p hp => hq p (List.mem_append_right _ hp)) hK

theorem at_any {id : Nat} (hm : E.P.follows .mixedOrders = true) (h : Any E k all all.length (Array.replicate all.length false) l L) : At E k (.region id all.toArray true) l L :=
  ⟨fun a w ha hs => wpIn_region_any hm (by simpa using h.out a { w with drawn := w.drawn + 1 } ha ⟨hs.rows, hs.low, hs.apart, hs.below.drew⟩)⟩
/-- What only reckons, taken first. -/
theorem any_take (is : List Nat) (hs : List (Nat × Hint)) (ts : List Nat) (ch : Sl) (rq : List Prop) (li : Array Bool) (hrd : E.rd = none) (hp' : ∃ fn R, E.R = bodyPost E.P fn R) (hsel : Region.noSelect all.toArray = true)
    (h : (evTs E.P E.n all hs is listed l).map (fun r => (r.1, keepL r.2.1 (ch.map (·.1) ++ ts), r.2.2)) = some (li, some (ch ++ restL l ts), rq)) (h3 : AllP rq) (h4 : Any E k all f li (ch ++ restL l ts) L) : Any E k all (f + is.length) listed l L := by
  have hp : PanicB E.R := by obtain ⟨fn, R, e⟩ := hp'; rw [e]; exact panic_body
  refine ⟨fun a w ha hw => ?_⟩
  cases hev : evTs E.P E.n all hs is listed l with
  | none => rw [hev] at h; cases h
  | some r =>
    rw [hev] at h
    simp only [Option.map_some, Option.some.injEq, Prod.mk.injEq] at h
    obtain ⟨rfl, h2, h5⟩ := h
    exact evTs_run hrd hp hsel is listed l r a w hev ha (by rw [h5]; exact allP_mem h3) fun a' ha' => h4.out a' w (ha'.sub (keepL_mem h2)) hw
theorem any_one_aux {F : Fence} {n : Nat} {P : Program} {o : Oper} {a : Act} {w : World} {ops : Array Oper} {I : Act → World → Prop} {Q : Exit → Act → World → Prop} (h : o.wpIn F n P a w (wpListIn F n P ops (Exit.then I Q) []) (Exit.then I Q)) : o.wpIn F n P a w I Q := h
/-- The one that may come up. -/
theorem any_one (i : Nat) (o : Oper) (hr : Region.ready .any all.toArray listed = [i]) (ho : all[i]? = some o)
    (h : Ops E (.loop (fun a w => wpAnyIn (fen E.rd) 0 E.P .any all.toArray (postF E.rd E.P E.R k) f (listed.setIfInBounds i true) a w) :: k) all [o] i l L) : Any E k all (f + 1) listed l L := by
  refine ⟨fun a w ha hs => ?_⟩
  unfold wpAnyIn
  refine ⟨fun h0 => (by rw [hr] at h0; cases h0), fun j hj => ?_⟩
  rw [hr] at hj
  obtain rfl := List.mem_singleton.1 hj
  have := h.out a w ha hs
  unfold wpOpIn
  have ho' : all.toArray[j]? = some o := by simpa using ho
  simp only [ho']
  unfold wpListIn at this
  split
  · rename_i hw
    rw [if_pos hw] at this
    exact any_one_aux this
  · rename_i hw
    rw [if_neg hw] at this
    exact ⟨this.1, this.2⟩
/-- Each that may come up, one after the other. -/
def EachF (E : Env) (k : List Fr) (all : List Oper) (f : Nat) (listed : Array Bool) (l : Sl) (L : List Ob) : List Nat → Prop
  | [] => True
  | i :: is => (∃ o, all[i]? = some o ∧ Ops E (.loop (fun a w => wpAnyIn (fen E.rd) 0 E.P .any all.toArray (postF E.rd E.P E.R k) f (listed.setIfInBounds i true) a w) :: k) all [o] i l L) ∧ EachF E k all f listed l L is
theorem each_mem : ∀ {is : List Nat}, EachF E k all f listed l L is → ∀ i ∈ is, ∃ o, all[i]? = some o ∧ Ops E (.loop (fun a w => wpAnyIn (fen E.rd) 0 E.P .any all.toArray (postF E.rd E.P E.R k) f (listed.setIfInBounds i true) a w) :: k) all [o] i l L
  | [], _, _, h => by cases h
  | j :: is, h, i, hi => by
    rcases List.mem_cons.1 hi with rfl | hi
    · exact h.1
    · exact each_mem h.2 i hi
theorem any_fork (is : List Nat) (hr : Region.ready .any all.toArray listed = is) (hne : is ≠ []) (h : EachF E k all f listed l L is) : Any E k all (f + 1) listed l L := by
  refine ⟨fun a w ha hs => ?_⟩
  unfold wpAnyIn
  refine ⟨fun h0 => (by rw [hr] at h0; exact absurd h0 hne), fun j hj => ?_⟩
  rw [hr] at hj
  obtain ⟨o, ho, h1⟩ := each_mem h j hj
  have := h1.out a w ha hs
  unfold wpOpIn
  have ho' : all.toArray[j]? = some o := by simpa using ho
  simp only [ho']
  unfold wpListIn at this
  split
  · rename_i hw
    rw [if_pos hw] at this
    exact any_one_aux this
  · rename_i hw
    rw [if_neg hw] at this
    exact ⟨this.1, this.2⟩
/-- Behind one operation. -/
theorem done_any {i : Nat} (h : Any E k all f (listed.setIfInBounds i true) l L) : Done E (.loop (fun a w => wpAnyIn (fen E.rd) 0 E.P .any all.toArray (postF E.rd E.P E.R k) f (listed.setIfInBounds i true) a w) :: k) l L :=
  done_loop fun a w ha hs => h.out a w ha hs
theorem any_nil (hr : Region.ready .any all.toArray listed = []) (h : Done E k l L) : Any E k all 0 listed l L :=
  ⟨fun a w ha hs => ⟨hr, h.out a w ha hs⟩⟩
/-- The state behind a piece of code, told: the ways through it meet again. -/
def Meet (E : Env) (l : Sl) (L : List Ob) : Act → World → Prop := fun a w => SlR E.n E.D l a ∧ Hs E.w0 L w
theorem each_nil : EachF E k all f listed l L [] := trivial
theorem each_cons {i : Nat} {is : List Nat} (o : Oper) (ho : all[i]? = some o) (h : Ops E (.loop (fun a w => wpAnyIn (fen E.rd) 0 E.P .any all.toArray (postF E.rd E.P E.R k) f (listed.setIfInBounds i true) a w) :: k) all [o] i l L) (t : EachF E k all f listed l L is) : EachF E k all f listed l L (i :: is) := ⟨⟨o, ho, h⟩, t⟩
/-- A state that all ways come to, told. -/
theorem any_cut (f' : Nat) (listed' : Array Bool) (l' : Sl) (L' : List Ob) (h2 : Any E k all f' listed' l' L') (h1 : Any E k all f' listed' l' L' → Any E k all f listed l L) : Any E k all f listed l L := h1 h2
/-- The same, where the ways make new blocks. -/
theorem any_cutG (f' : Nat) (listed' : Array Bool) (l' : (Nat → Nat) → Sl) (L' : (Nat → Nat) → List Ob) (h2 : ∀ γ, Any E k all f' listed' (l' γ) (L' γ)) (h1 : (∀ γ, Any E k all f' listed' (l' γ) (L' γ)) → Any E k all f listed l L) : Any E k all f listed l L := h1 h2
theorem any_weak {f' : Nat} {listed' : Array Bool} {l' : Sl} {L' : List Ob} (h : Any E k all f' listed' l' L') (ts : List Nat) (hl : keepL l ts = some l') (hL : L = L') (hf : f = f') (hli : listed = listed') : Any E k all f listed l L := by
  subst hL hf hli
  exact ⟨fun a w ha hs => h.out a w (ha.sub (keepL_mem hl)) hs⟩

/-- A call walked into. -/
theorem ops_inline {os : List Oper} {o : Oper} {i : Nat} {g : FuncId} {args : Array Value} {fn : Func} {c : Code} {n' : Nat} (hw : wantL all l o = some true) (hd : okD E.n o.dst = true) (hc : calleeL l o = some (g, args)) (he : ∀ args w, (callFunc g args).run E.P w = .ok (.enter g args) w)
    (hf : E.P.funcs[g]? = some fn) (hb : fn.body = some c) (hn : fn.ntmps = n') (hs : Nat.ble args.size n' = true)
    (h : At ⟨E.P, none, [], bodyPost E.P fn (fun e w' => ∃ v L', e = .returned v ∧ Hs E.w0 L' w' ∧ Ops E k all os (i + 1) (putL o.dst v l) L'), E.w0, n'⟩ [] c (argL args) L) : Ops E k all (o :: os) i l L := by
  refine ⟨fun a w ha hs' => ?_⟩
  have hg := wantL_spec ha hw
  refine wpListIn_step fun K hK => ?_
  rw [if_pos hg]
  refine ⟨fun _ _ => trivial, ?_⟩
  rw [Oper.semAt_eq _ _ _ (callee_known hc), run_callee ha hc he w]
  refine ⟨fun h => (by cases h), fen_calls ?_⟩
  refine (enter hs' hf hb hn hs h).mono fun e w' ⟨v, L', he, hs2, hO⟩ => ?_
  subst he
  exact hK _ _ (hO.out _ _ (ha.put hd v) hs2)
theorem at_back {P : Program} {fn : Func} {w0 : World} {n : Nat} {X : Value → List Ob → Prop} (src : List Src) (v : Value) (rq : List Prop) (h1 : rSeen (retV P w0 fn.results.toList l L src) = some (v, rq)) (h2 : rtL (retV P w0 fn.results.toList l L src) = rtR (retV P w0 fn.results.toList l L src)) (h3 : AllP rq)
    (h : X v L) : At ⟨P, none, [], bodyPost P fn (fun e w' => ∃ v L', e = .returned v ∧ Hs w0 L' w' ∧ X v L'), w0, n⟩ k .ret l L :=
  at_return src v rq h1 h2 h3 fun _ hw => ⟨v, L, rfl, hw, h⟩
/-- any_take, in a function's own body. -/
theorem any_tk {P : Program} {fn : Func} {R : Ending → World → Prop} {w0 : World} {n : Nat} (is : List Nat) (hs : List (Nat × Hint)) (ts : List Nat) (ch : Sl) (rq : List Prop) (li : Array Bool) (hsel : Region.noSelect all.toArray = true)
    (h : (evTs P n all hs is listed l).map (fun r => (r.1, keepL r.2.1 (ch.map (·.1) ++ ts), r.2.2)) = some (li, some (ch ++ restL l ts), rq)) (h3 : AllP rq) (h4 : Any ⟨P, none, [], bodyPost P fn R, w0, n⟩ k all f li (ch ++ restL l ts) L) : Any ⟨P, none, [], bodyPost P fn R, w0, n⟩ k all (f + is.length) listed l L :=
  any_take (E := ⟨P, none, [], bodyPost P fn R, w0, n⟩) is hs ts ch rq li rfl ⟨fn, R, rfl⟩ hsel h h3 h4
end
end Go.Proofs.Ytoljahfofkmdaaa

/-! Plain laws: rows by rising numbers, and the search in them. No program in sight. -/
namespace Go.Proofs.Ytoljahfofkmdaaa
open Go Go.RowKit

theorem get_some {α : Type} {l : List α} {m : Nat} (h : m < l.length) : ∃ x, l[m]? = some x := ⟨l[m], List.getElem?_eq_getElem h⟩
section
variable {α : Type} (f : α → Int)
/-- Rising numbers. -/
def AscK (l : List α) : Prop := ∀ (i j : Nat) (x y : α), i < j → l[i]? = some x → l[j]? = some y → f x < f y
def posK (l : List α) (k : Int) : Nat := (l.takeWhile fun x => decide (f x < k)).length
def hasK (l : List α) (k : Int) : Bool := l.any fun x => decide (f x = k)
def BsK (l : List α) (k : Int) (lo hi : Nat) : Prop := (∀ (t : Nat) (x : α), t < lo → l[t]? = some x → f x < k) ∧ (∀ (t : Nat) (x : α), hi ≤ t → l[t]? = some x → k ≤ f x)
variable {f} {l : List α} {k : Int} {lo hi m n : Nat} {x : α}
end
section
variable {l : List Int} {k x : Int} {j : Nat}
/-- The first place of a number; -1: nowhere. -/
def idxI (l : List Int) (k : Int) : Int := if k ∈ l then ((l.findIdx fun x => decide (x = k)) : Nat) else -1
end
theorem Sv.none {α : Type} [Enc α] {w : World} {l : List α} (h : Sv w Option.none l) : l = [] := by
  cases l with
  | nil => rfl
  | cons x l =>
    obtain ⟨b, o, e⟩ := h.addr (by simp)
    cases e
end Go.Proofs.Ytoljahfofkmdaaa

/-! The walker: slice expressions; cells of one's own row laid over. -/
namespace Go.Proofs.Ytoljahfofkmdaaa
open Go Go.RowKit

section
variable {P : Program} {T e : TypeId} {p : Option Addr} {n cap k by_ : Nat} {inf : TypeInfo}
theorem run_bound {k : IntKind} {h y : Nat} {c : BoundsCode} (hh : h ≤ y) (w : World) : (Instr.sliceBound (.int k (h : Int)) y c).run P w = .ok h w := by
  have : (0 : Int) ≤ h ∧ (h : Int) ≤ y := ⟨by omega, by omega⟩
  simp [Instr.sliceBound, asIntOf, this, hh]
/-- s[:h] -/
theorem sl_hi {h : Nat} (hu : P.underlying T = some (.slice e)) (hi : P.info? e = some inf) (hh : h ≤ cap) : SlRun P T (.slice p n cap) none (some (.int .i64 (h : Int))) none (.slice p h cap) := by
  intro w
  have e1 : (if cap = 0 then p else p.map (·.add (0 * inf.size))) = p := by
    split
    · rfl
    · cases p with
      | none => rfl
      | some a => simp [Addr.add]
  simp [Instr.sliceAt, Instr.slice, underlying, hu, Instr.sliceBounds, run_bound hh, sizeOf, typeInfo, hi]
  simpa using e1
theorem slE_hi {h : Nat} (hE : elemB P T e k by_ = true) (hh : h ≤ cap) : SlRun P T (.slice p n cap) none (some (.int .i64 (h : Int))) none (.slice p h cap) := by
  obtain ⟨hu, i, z, hi, _⟩ := elemB_spec hE
  exact sl_hi hu hi hh
theorem Sv.take {α : Type} [Enc α] {w : World} {l : List α} (h : Sv w p l) (m : Nat) : Sv w p (l.take m) :=
  ⟨fun hne => h.addr fun e => hne (by rw [e]; simp), fun b o e i hi => by
    have hi' : i < l.length := by rw [List.length_take] at hi; omega
    have := h.cell b o e i hi'
    rwa [List.getElem_take]⟩
end
end Go.Proofs.Ytoljahfofkmdaaa

/-! The walker: copy, clear, append of a made slice: cells of one's own row laid over. -/
namespace Go.Proofs.Ytoljahfofkmdaaa
open Go Go.RowKit

/-- The cells c with vs laid over from o on. -/
def sets : Array Value → Nat → List Value → Array Value
  | c, _, [] => c
  | c, o, v :: vs => sets (c.setIfInBounds o v) (o + 1) vs
section
variable {P : Program} {w : World} {t tx T ty : TypeId} {k by_ : Nat}
end

section
variable {E : Env} {k : List Fr} {l : Sl} {L : List Ob} {all os : List Oper} {o : Oper} {i : Nat}
end
end Go.Proofs.Ytoljahfofkmdaaa

/-! The walker: what an insertion leaves in a row of cells; calls that the model answers itself. -/
namespace Go.Proofs.Ytoljahfofkmdaaa
open Go Go.RowKit

section
variable {α : Type} [Enc α] {l vl : List α} {i n m cap cap2 : Nat} {cs c2 : Array Value}
theorem flat_take : ∀ (l : List α) (i : Nat), (l.take i).flatMap Enc.enc = (l.flatMap Enc.enc).take (i * Enc.k α)
  | [], i => by simp
  | x :: l, 0 => by simp
  | x :: l, i + 1 => by
    have hx := Enc.len (α := α) x
    have e1 : (i + 1) * Enc.k α = i * Enc.k α + Enc.k α := by rw [Nat.add_mul]; omega
    have e2 : (Enc.enc x).take ((i + 1) * Enc.k α) = Enc.enc x := List.take_of_length_le (by omega)
    rw [List.take_succ_cons, List.flatMap_cons, List.flatMap_cons, flat_take l i, List.take_append, hx, e2]
    congr 2
    omega
end

section
variable {E : Env} {k : List Fr} {l : Sl} {L : List Ob} {all os : List Oper} {o : Oper} {i : Nat}
end
end Go.Proofs.Ytoljahfofkmdaaa

/-! The walker: small laws for insertion and deletion. -/
namespace Go.Proofs.Ytoljahfofkmdaaa
open Go Go.RowKit

section
variable {α : Type} [Enc α] {l : List α} {i n m cap : Nat} {cs : Array Value} {w w0 : World}
theorem SlO.parts {T : TypeId} {Y : List Ob} {p : Option Addr} (h : SlO T Y p n cap l) : (p = none ∧ Y = [] ∧ n = 0) ∨ ∃ g cs, p = some ⟨g, 0, none⟩ ∧ Y = [bx g cs T] ∧ OwnS (Enc.k α) (l.flatMap Enc.enc) n cap cs := by
  rcases h with ⟨a, b, c, d, e⟩ | ⟨g, cs, a, b, c, d⟩
  · subst a; subst b; exact .inl ⟨rfl, rfl, by first | assumption | omega⟩
  · exact .inr ⟨g, cs, by assumption, by assumption, by assumption⟩
theorem OwnS.rdx (h : OwnS (Enc.k α) (l.flatMap Enc.enc) n cap cs) (hn : n = l.length) {x : α} (hx : l[i]? = some x) : RdA cs (0 + i * Enc.k α) (Enc.enc x) := by
  obtain ⟨hi, e⟩ := List.getElem?_eq_some_iff.1 hx
  subst e
  rw [Nat.zero_add]
  exact h.rda hn i hi
theorem Hs.push {A Y R : List Ob} (h : Hs w0 (Y ++ (A ++ R)) w) : Hs w0 (A ++ (Y ++ R)) w :=
  h.perm (by rw [← List.append_assoc, ← List.append_assoc]; exact (List.perm_append_comm).append_right _)
end
end Go.Proofs.Ytoljahfofkmdaaa

/-! The walker: elements of a run of one's own that are changed in place; pointers into it compared. -/
namespace Go.Proofs.Ytoljahfofkmdaaa
open Go Go.RowKit

section
variable {α : Type} [Enc α] {l : List α} {i n cap f : Nat} {cs : Array Value} {x x' : α} {v : Value}
theorem OwnS.room (h : OwnS (Enc.k α) (l.flatMap Enc.enc) n cap cs) (hn : n = l.length) (hx : l[i]? = some x) (hf : f < Enc.k α) : 0 + i * Enc.k α + f < cs.size := by
  have hi : i < l.length := (List.getElem?_eq_some_iff.1 hx).1
  have a1 : (i + 1) * Enc.k α ≤ cap * Enc.k α := Nat.mul_le_mul_right _ (by have := h.le; omega)
  rw [Nat.add_mul, Nat.one_mul] at a1
  rw [h.csz]; omega
theorem OwnS.put (h : OwnS (Enc.k α) (l.flatMap Enc.enc) n cap cs) (hn : n = l.length) (hx : l[i]? = some x) (hf : f < Enc.k α) (he : Enc.enc x' = (Enc.enc x).set f v) :
    OwnS (Enc.k α) ((l.set i x').flatMap Enc.enc) n cap (cs.setIfInBounds (0 + i * Enc.k α + f) v) := by
  obtain ⟨hi, hxe⟩ := List.getElem?_eq_some_iff.1 hx
  have hroom := h.room hn hx hf
  have hsl : (l.set i x').length = n := by rw [List.length_set]; exact hn.symm
  have hl1 : (l.flatMap Enc.enc).length = n * Enc.k α := by rw [flat_len, hn]
  have hl2 : ((l.set i x').flatMap Enc.enc).length = n * Enc.k α := by rw [flat_len, hsl]
  have hcap : n * Enc.k α ≤ cap * Enc.k α := Nat.mul_le_mul_right _ h.le
  refine ⟨hl2, h.le, h.max, by rw [Array.size_setIfInBounds]; exact h.csz, ?_⟩
  apply List.ext_getElem?
  intro j
  rw [List.getElem?_take]
  by_cases hj : j < n * Enc.k α
  · rw [if_pos hj, Array.getElem?_toList, Array.getElem?_setIfInBounds]
    have hk : 0 < Enc.k α := by omega
    have hq : j / Enc.k α < n := (Nat.div_lt_iff_lt_mul hk).2 hj
    have hr : j % Enc.k α < Enc.k α := Nat.mod_lt _ hk
    have hjd : j = j / Enc.k α * Enc.k α + j % Enc.k α := by have := Nat.div_add_mod j (Enc.k α); rw [Nat.mul_comm] at this; omega
    have g1 := flat_get l (j / Enc.k α) (by omega) (j % Enc.k α) hr
    have g2 := flat_get (l.set i x') (j / Enc.k α) (by omega) (j % Enc.k α) hr
    rw [← hjd] at g1 g2
    rw [g2, List.getElem_set]
    by_cases hji : i = j / Enc.k α
    · rw [if_pos hji, he]
      by_cases hf2 : f = j % Enc.k α
      · rw [if_pos (by rw [hji, hf2]; omega), if_pos (by omega), List.getElem?_set, if_pos hf2, if_pos (by rw [Enc.len]; omega)]
      · rw [if_neg (by rw [hji]; omega), h.get j hj, g1, List.getElem?_set, if_neg hf2]
        subst hji; rw [hxe]
    · rw [if_neg hji, if_neg ?_, h.get j hj, g1]
      intro e
      have e' : i * Enc.k α + f = j := by omega
      apply hji
      rw [← e', Nat.mul_comm, Nat.mul_add_div hk, Nat.div_eq_of_lt hf]; rfl
  · rw [if_neg hj, List.getElem?_eq_none (by rw [hl2]; omega)]
theorem SlO.ofOwn {T : TypeId} {g : Nat} (h : OwnS (Enc.k α) (l.flatMap Enc.enc) n cap cs) (hn : n = l.length) : SlO T [bx g cs T] (some ⟨g, 0, none⟩) n cap l := .inr ⟨g, cs, rfl, rfl, hn, h⟩
omit [Enc α] in
theorem len_set {y : α} (hn : n = l.length) : n = (l.set i y).length := by rw [List.length_set]; exact hn
end

section
variable {E : Env} {k : List Fr} {l : Sl} {L : List Ob} {all os : List Oper} {o : Oper} {i : Nat}
end
end Go.Proofs.Ytoljahfofkmdaaa

/-! The walker: a range over a function, walked in place: the function's own body, and at each call of yield the loop's body. -/
namespace Go.Proofs.Ytoljahfofkmdaaa
open Go Go.RowKit

/-- A loop's record that is ready. -/
structure RecOk (n : Nat) (l : Sl) (ps : Array Tmp) (asg body : Code) (r : Loop) : Prop where
  state : r.state = .ready
  pending : r.pending = none
  params : r.params = ps
  assign : r.assign = asg
  body : r.body = body
  slots : SlR n [] l { tmps := r.tmps, defers := [] }
/-- yield's arguments in the loop's slots. -/
def setps : List (Tmp × Value) → Sl → Sl
  | [], l => l
  | (t, v) :: ps, l => setps ps (putL (some t) v l)
/-- Which loop a call of yield asks, with what. -/
def yieldL (l : Sl) (o : Oper) : Option (Nat × Array Value) :=
  if knownO l o then match o.op with
    | .call c => match c.callee with
      | .value x => match look l x with
        | .func (.yield y) first _ => some (y, first ++ c.args.map (look l))
        | _ => none
      | _ => none
    | _ => none
  else none
theorem turn_ob2 {g : Nat} {o o' : Obj} {w : World} (h : w.heap[g]? = some o) : Turn g o' w (w.putObj g o') :=
  ⟨World.putObj_heap_same (Array.getElem?_eq_some_iff.1 h).1, fun _ hk => World.putObj_heap_other hk, by simp [World.putObj], rfl, rfl, rfl, Nat.le_refl _⟩
theorem Hs.gone {w0 w : World} {L : List Ob} {g : Nat} {o o' : Obj} {i : Nat} (h : Hs w0 L w) (hi : L[i]? = some (g, o)) : Hs w0 (L.eraseIdx i) (w.putObj g o') :=
  (h.turn i hi (turn_ob2 (h.row i hi))).sub (by rw [← List.eraseIdx_set_eq (l := L) (i := i) (a := (g, o'))]; exact List.eraseIdx_sublist ..)
section
variable {E : Env} {k : List Fr} {l : Sl} {L : List Ob} {all os : List Oper} {o : Oper} {i : Nat}
end
end Go.Proofs.Ytoljahfofkmdaaa

/-! The walker: drawn regions that act, told state by state (each set of done operations once). -/
namespace Go.Proofs.Ytoljahfofkmdaaa
open Go Go.RowKit

section
variable {E : Env} {k : List Fr} {all : List Oper} {f : Nat} {listed : Array Bool} {l : Sl} {L : List Ob}
/-- A state told over its own variables. -/
theorem any_cutX {V : Type} (C : V → Prop) (f' : Nat) (listed' : Array Bool) (l' : V → Sl) (L' : V → List Ob) (h2 : ∀ v, C v → Any E k all f' listed' (l' v) (L' v))
    (h1 : (∀ v, C v → Any E k all f' listed' (l' v) (L' v)) → Any E k all f listed l L) : Any E k all f listed l L := h1 h2
def chunk (cs : List (List Ob)) (is : List Nat) : List Ob := (is.map fun i => cs.getD i []).flatten
theorem chunk_perm (cs : List (List Ob)) (is : List Nat) (h : is.isPerm (List.range cs.length) = true) : (chunk cs is).Perm cs.flatten := by
  have h1 := (List.isPerm_iff.1 h).map fun i => cs.getD i []
  have h2 : (List.range cs.length).map (fun i => cs.getD i []) = cs := by
    apply List.ext_getElem?
    intro j
    rw [List.getElem?_map]
    by_cases hj : j < cs.length
    · rw [List.getElem?_range hj, List.getElem?_eq_getElem hj]; simp [hj]
    · rw [List.getElem?_eq_none (by simpa using hj), List.getElem?_eq_none (by omega)]; rfl
  rw [h2] at h1
  exact h1.flatten
/-- The blocks may stand in another order. -/
theorem any_weakP {f' : Nat} {listed' : Array Bool} {l' : Sl} {L' : List Ob} (h : Any E k all f' listed' l' L') (ts : List Nat) (cs : List (List Ob)) (is : List Nat) (hl : keepL l ts = some l') (hL : L = cs.flatten) (hL' : L' = chunk cs is) (hi : is.isPerm (List.range cs.length) = true) (hf : f = f') (hli : listed = listed') :
    Any E k all f listed l L := by
  subst hL hL' hf hli
  exact ⟨fun a w ha hs => h.out a w (ha.sub (keepL_mem hl)) (hs.perm (chunk_perm cs is hi).symm)⟩
end
end Go.Proofs.Ytoljahfofkmdaaa

/-! The walker: blocks told in another order, some of them left out. -/
namespace Go.Proofs.Ytoljahfofkmdaaa
open Go Go.RowKit

theorem Hs.pick {w0 w : World} (cs : List (List Ob)) (is rest : List Nat) (hi : (is ++ rest).isPerm (List.range cs.length) = true) (h : Hs w0 cs.flatten w) : Hs w0 (chunk cs is) w := by
  have h1 := h.perm (chunk_perm cs (is ++ rest) hi).symm
  have e : chunk cs (is ++ rest) = chunk cs is ++ chunk cs rest := by simp [chunk]
  rw [e] at h1
  exact h1.sub (List.sublist_append_left _ _)
section
variable {E : Env} {k : List Fr} {l : Sl} {L L' : List Ob} {all os : List Oper} {i : Nat}
theorem At.pick {c : Code} (cs : List (List Ob)) (is rest : List Nat) (L' : List Ob) (hi : (is ++ rest).isPerm (List.range cs.length) = true) (hL : L = cs.flatten) (hL' : L' = chunk cs is) (h : At E k c l L') : At E k c l L :=
  ⟨fun a w ha hs => h.out a w ha (by rw [hL']; exact Hs.pick cs is rest hi (by rw [← hL]; exact hs))⟩
theorem Ops.pick (cs : List (List Ob)) (is rest : List Nat) (L' : List Ob) (hi : (is ++ rest).isPerm (List.range cs.length) = true) (hL : L = cs.flatten) (hL' : L' = chunk cs is) (h : Ops E k all os i l L') : Ops E k all os i l L :=
  ⟨fun a w ha hs => h.out a w ha (by rw [hL']; exact Hs.pick cs is rest hi (by rw [← hL]; exact hs))⟩
theorem Done.pick (cs : List (List Ob)) (is rest : List Nat) (L' : List Ob) (hi : (is ++ rest).isPerm (List.range cs.length) = true) (hL : L = cs.flatten) (hL' : L' = chunk cs is) (h : Done E k l L') : Done E k l L :=
  ⟨fun a w ha hs => h.out a w ha (by rw [hL']; exact Hs.pick cs is rest hi (by rw [← hL]; exact hs))⟩
end
end Go.Proofs.Ytoljahfofkmdaaa

/-! The walker's rules once more, under short names: what the kernel reckons is left to it. -/
namespace Go.Proofs.Ytoljahfofkmdaaa
open Go Go.RowKit

section
variable {E : Env} {k : List Fr} {l : Sl} {L : List Ob} {all os : List Oper} {i : Nat} {o : Oper} {f : FuncId} {args : Array Value}
theorem ds_ {c : Code} (h : At E k c l L) : Done E (.seq c :: k) l L := done_seq h
theorem sq_ {c d : Code} (h : At E (.seq d :: k) c l L) : At E k (.seq c d) l L := at_seq h
theorem on_ (h : Done E k l L) : Ops E k all [] i l L := ops_nil h
theorem ao_ {id : Nat} (h : Ops E k all all 0 l L) : At E k (.region id all.toArray false) l L := at_ops h
theorem t_ {c : Operand} {x y : Code} (h : At E k x l L) (hk : (knownX l c, look l c) = (true, .bool true) := by kernel_rfl) : At E k (.cond c x y) l L := at_true hk h
theorem f_ {c : Operand} {x y : Code} (h : At E k y l L) (hk : (knownX l c, look l c) = (true, .bool false) := by kernel_rfl) : At E k (.cond c x y) l L := at_false hk h
theorem qo (m : Nat) (hs : List (Nat × Hint)) (ts : List Nat) (ch : Sl) (rq : List Prop) (h3 : AllP rq) (h4 : Ops E k all (os.drop m) (i + m) (ch ++ restL l ts) L)
    (h : ∀ γ, ev2 (ch.map (·.1) ++ ts) (evOps false E.P E.w0 γ E.n all hs i (os.take m) ⟨l, L, 0⟩) = (some (ch ++ restL l ts, L, rq), trR (evOps false E.P E.w0 γ E.n all hs i (os.take m) ⟨l, L, 0⟩)) := by intro _; kernel_rfl) : Ops E k all os i l L := oq m hs ts ch rq h h3 h4
theorem qo0 (m : Nat) (hs : List (Nat × Hint)) (ts : List Nat) (ch : Sl) (h4 : Ops E k all (os.drop m) (i + m) (ch ++ restL l ts) L)
    (h : ∀ γ, ev2 (ch.map (·.1) ++ ts) (evOps false E.P E.w0 γ E.n all hs i (os.take m) ⟨l, L, 0⟩) = (some (ch ++ restL l ts, L, []), trR (evOps false E.P E.w0 γ E.n all hs i (os.take m) ⟨l, L, 0⟩)) := by intro _; kernel_rfl) : Ops E k all os i l L := oq m hs ts ch [] h al0 h4
theorem mo (m : Nat) (hs : List (Nat × Hint)) (ts : List Nat) (ch : (Nat → Nat) → Sl) (F : (Nat → Nat) → List Ob → List Ob) (rq : (Nat → Nat) → List Prop) (h3 : ∀ γ, AllP (rq γ)) (h4 : ∀ γ, Ops E k all (os.drop m) (i + m) (ch γ ++ restL l ts) (F γ L))
    (h : ∀ γ, ev2 ((ch γ).map (·.1) ++ ts) (evOps false E.P E.w0 γ E.n all hs i (os.take m) ⟨l, L, 0⟩) = (some (ch γ ++ restL l ts, F γ L, rq γ), trR (evOps false E.P E.w0 γ E.n all hs i (os.take m) ⟨l, L, 0⟩)) := by intro _; kernel_rfl) : Ops E k all os i l L := om m hs ts ch F rq h h3 h4
theorem mo0 (m : Nat) (hs : List (Nat × Hint)) (ts : List Nat) (ch : (Nat → Nat) → Sl) (F : (Nat → Nat) → List Ob → List Ob) (h4 : ∀ γ, Ops E k all (os.drop m) (i + m) (ch γ ++ restL l ts) (F γ L))
    (h : ∀ γ, ev2 ((ch γ).map (·.1) ++ ts) (evOps false E.P E.w0 γ E.n all hs i (os.take m) ⟨l, L, 0⟩) = (some (ch γ ++ restL l ts, F γ L, []), trR (evOps false E.P E.w0 γ E.n all hs i (os.take m) ⟨l, L, 0⟩)) := by intro _; kernel_rfl) : Ops E k all os i l L := om m hs ts ch F (fun _ => []) h (fun _ => al0) h4
theorem ma {id : Nat} (hs : List (Nat × Hint)) (ts : List Nat) (ch : (Nat → Nat) → Sl) (F : (Nat → Nat) → List Ob → List Ob) (rq : (Nat → Nat) → List Prop) (h3 : ∀ γ, AllP (rq γ)) (h4 : ∀ γ, Done E k (ch γ ++ restL l ts) (F γ L))
    (h : ∀ γ, ev2 ((ch γ).map (·.1) ++ ts) (evOps false E.P E.w0 γ E.n all hs 0 all ⟨l, L, 0⟩) = (some (ch γ ++ restL l ts, F γ L, rq γ), trR (evOps false E.P E.w0 γ E.n all hs 0 all ⟨l, L, 0⟩)) := by intro _; kernel_rfl) : At E k (.region id all.toArray false) l L := am hs ts ch F rq h h3 h4
theorem ma0 {id : Nat} (hs : List (Nat × Hint)) (ts : List Nat) (ch : (Nat → Nat) → Sl) (F : (Nat → Nat) → List Ob → List Ob) (h4 : ∀ γ, Done E k (ch γ ++ restL l ts) (F γ L))
    (h : ∀ γ, ev2 ((ch γ).map (·.1) ++ ts) (evOps false E.P E.w0 γ E.n all hs 0 all ⟨l, L, 0⟩) = (some (ch γ ++ restL l ts, F γ L, []), trR (evOps false E.P E.w0 γ E.n all hs 0 all ⟨l, L, 0⟩)) := by intro _; kernel_rfl) : At E k (.region id all.toArray false) l L := am hs ts ch F (fun _ => []) h (fun _ => al0) h4
theorem qa {id : Nat} (hs : List (Nat × Hint)) (ts : List Nat) (ch : Sl) (rq : List Prop) (h3 : AllP rq) (h4 : Done E k (ch ++ restL l ts) L)
    (h : ∀ γ, ev2 (ch.map (·.1) ++ ts) (evOps false E.P E.w0 γ E.n all hs 0 all ⟨l, L, 0⟩) = (some (ch ++ restL l ts, L, rq), trR (evOps false E.P E.w0 γ E.n all hs 0 all ⟨l, L, 0⟩)) := by intro _; kernel_rfl) : At E k (.region id all.toArray false) l L := aq hs ts ch rq h h3 h4
theorem qa0 {id : Nat} (hs : List (Nat × Hint)) (ts : List Nat) (ch : Sl) (h4 : Done E k (ch ++ restL l ts) L)
    (h : ∀ γ, ev2 (ch.map (·.1) ++ ts) (evOps false E.P E.w0 γ E.n all hs 0 all ⟨l, L, 0⟩) = (some (ch ++ restL l ts, L, []), trR (evOps false E.P E.w0 γ E.n all hs 0 all ⟨l, L, 0⟩)) := by intro _; kernel_rfl) : At E k (.region id all.toArray false) l L := aq hs ts ch [] h al0 h4
theorem cD (v : Value) (he : ∀ args w, (callFunc f args).run E.P w = .ok (.enter f args) w)
    (hC : ∀ w, Hs E.w0 L w → Calls E.P f args w fun e w' => e = .returned v ∧ Below w.heap.size w w') (h : Ops E k all os (i + 1) (putL o.dst v l) L) (hw : wantL all l o = some true := by kernel_rfl) (hd : okD E.n o.dst = true := by kernel_rfl) (hc : calleeL l o = some (f, args) := by kernel_rfl) : Ops E k all (o :: os) i l L := ops_callD v hw hd hc he hC h
theorem cK (v : Value) (he : ∀ args w, (callFunc f args).run E.P w = .ok (.enter f args) w)
    (hC : ∀ w, Hs E.w0 L w → Calls E.P f args w fun e w' => e = .returned v ∧ Below w.heap.size w w') (h : Calm E k all os (i + 1) (putL o.dst v l) L) (hw : wantL all l o = some true := by kernel_rfl) (hd : okD E.n o.dst = true := by kernel_rfl) (hc : calleeL l o = some (f, args) := by kernel_rfl) : Calm E k all (o :: os) i l L := calm_callD v hw hd hc he hC h
theorem cP (Post : Value → List Ob → Prop) (he : ∀ args w, (callFunc f args).run E.P w = .ok (.enter f args) w)
    (hC : ∀ w, Hs E.w0 L w → Calls E.P f args w fun e w' => ∃ v L', e = .returned v ∧ Post v L' ∧ Hs E.w0 L' w') (h : ∀ v L', Post v L' → Ops E k all os (i + 1) (putL o.dst v l) L') (hw : wantL all l o = some true := by kernel_rfl) (hd : okD E.n o.dst = true := by kernel_rfl) (hc : calleeL l o = some (f, args) := by kernel_rfl) : Ops E k all (o :: os) i l L := ops_call Post hw hd hc he hC h
theorem dr {α : Type} {S : α → Sl} {M : α → List Ob} {I : α → Prop} {μ : α → Nat} {x : α} (ts : List Nat) (y : α) (hI : I y) (hl : keepL l ts = some (S y) := by kernel_rfl) (hL : L = M y := by rfl) (hμ : μ y < μ x := by first | omega | (simp only; omega)) : Done E (.loop (Again E S M I μ x) :: k) l L := done_round ts y hl hL hI hμ
theorem rt {P : Program} {fn : Func} {R : Ending → World → Prop} {w0 : World} {n : Nat} (src : List Src) (v : Value) (h : ∀ w, Hs w0 L w → R (.returned v) w) (h1 : rSeen (retV P w0 fn.results.toList l L src) = some (v, []) := by kernel_rfl) (h2 : rtL (retV P w0 fn.results.toList l L src) = rtR (retV P w0 fn.results.toList l L src) := by kernel_rfl) : At ⟨P, none, [], bodyPost P fn R, w0, n⟩ k .ret l L := at_return src v [] h1 h2 al0 h
theorem bk {P : Program} {fn : Func} {w0 : World} {n : Nat} {X : Value → List Ob → Prop} (src : List Src) (v : Value) (h : X v L) (h1 : rSeen (retV P w0 fn.results.toList l L src) = some (v, []) := by kernel_rfl) (h2 : rtL (retV P w0 fn.results.toList l L src) = rtR (retV P w0 fn.results.toList l L src) := by kernel_rfl) : At ⟨P, none, [], bodyPost P fn (fun e w' => ∃ v L', e = .returned v ∧ Hs w0 L' w' ∧ X v L'), w0, n⟩ k .ret l L := at_back src v [] h1 h2 al0 h
variable {listed : Array Bool} {m : Nat}
theorem od_ {j : Nat} (h : Any E k all m (listed.setIfInBounds i true) l L) : Ops E (.loop (fun a w => wpAnyIn (fen E.rd) 0 E.P .any all.toArray (postF E.rd E.P E.R k) m (listed.setIfInBounds i true) a w) :: k) all [] j l L := ops_nil (done_any h)
theorem a1 (i : Nat) (ho : all[i]? = some o) (h : Ops E (.loop (fun a w => wpAnyIn (fen E.rd) 0 E.P .any all.toArray (postF E.rd E.P E.R k) m (listed.setIfInBounds i true) a w) :: k) all [o] i l L) (hr : Region.ready .any all.toArray listed = [i] := by kernel_rfl) : Any E k all (m + 1) listed l L := any_one i o hr ho h
theorem wk {f' : Nat} {listed' : Array Bool} {l' : Sl} {L' : List Ob} (h : Any E k all f' listed' l' L') (ts : List Nat) (cs : List (List Ob)) (is : List Nat) (hL : L = cs.flatten) (hL' : L' = chunk cs is) (hl : keepL l ts = some l' := by kernel_rfl) (hi : is.isPerm (List.range cs.length) = true := by kernel_rfl) (hf : m = f' := by rfl) (hli : listed = listed' := by rfl) :
    Any E k all m listed l L := any_weakP h ts cs is hl hL hL' hi hf hli
theorem tk {P : Program} {fn : Func} {R : Ending → World → Prop} {w0 : World} {n : Nat} (is : List Nat) (hs : List (Nat × Hint)) (ts : List Nat) (ch : Sl) (rq : List Prop) (li : Array Bool) (h3 : AllP rq) (h4 : Any ⟨P, none, [], bodyPost P fn R, w0, n⟩ k all m li (ch ++ restL l ts) L) (hsel : Region.noSelect all.toArray = true := by kernel_rfl)
    (h : (evTs P n all hs is listed l).map (fun r => (r.1, keepL r.2.1 (ch.map (·.1) ++ ts), r.2.2)) = some (li, some (ch ++ restL l ts), rq) := by kernel_rfl) : Any ⟨P, none, [], bodyPost P fn R, w0, n⟩ k all (m + is.length) listed l L := any_tk is hs ts ch rq li hsel h h3 h4
end
end Go.Proofs.Ytoljahfofkmdaaa

/-! The walker: whole elements stored in place; clear; what a deletion leaves; loops that gather. -/
namespace Go.Proofs.Ytoljahfofkmdaaa
open Go Go.RowKit

def setsL : List Value → Nat → List Value → List Value
  | c, _, [] => c
  | c, o, v :: vs => setsL (c.set o v) (o + 1) vs
section
variable {α : Type} [Enc α] {l m : List α} {i j n cap : Nat} {cs : Array Value} {x x' : α}
/-- Only the first elements are kept. -/
theorem OwnS.cut (h : OwnS (Enc.k α) (l.flatMap Enc.enc) n cap cs) (hn : n = l.length) (hi : i ≤ n) {c' : Array Value} (hs : c'.size = cs.size) (hc : ∀ j, j < 0 + i * Enc.k α → c'[j]? = cs[j]?) : OwnS (Enc.k α) ((l.take i).flatMap Enc.enc) i cap c' := by
  have hm : i * Enc.k α ≤ n * Enc.k α := Nat.mul_le_mul_right _ hi
  have hlen : (l.take i).length = i := by rw [List.length_take]; omega
  have hfl : ((l.take i).flatMap Enc.enc).length = i * Enc.k α := by rw [flat_len, hlen]
  refine ⟨hfl, Nat.le_trans hi h.le, h.max, by rw [hs]; exact h.csz, ?_⟩
  apply List.ext_getElem?
  intro j
  rw [List.getElem?_take]
  by_cases hj : j < i * Enc.k α
  · rw [if_pos hj, Array.getElem?_toList, hc j (by omega), h.get j (by omega), flat_take, List.getElem?_take, if_pos hj]
  · rw [if_neg hj, List.getElem?_eq_none (by rw [hfl]; omega)]
/-! ### deletion: i kept of the first j -/
structure Dels (p : α → Bool) (l m : List α) (i j : Nat) : Prop where
  lt : i < j
  le : j ≤ l.length
  len : m.length = l.length
  pre : m.take i = (l.take j).filter fun x => !p x
  rest : m.drop j = l.drop j
omit [Enc α] in
theorem Dels.get {p : α → Bool} (h : Dels p l m i j) (hx : m[j]? = some x) : l[j]? = some x := by
  have e1 : (m.drop j)[0]? = m[j]? := by simp
  have e2 : (l.drop j)[0]? = l[j]? := by simp
  rw [← e2, ← h.rest, e1, hx]
omit [Enc α] in
theorem Dels.yes {p : α → Bool} (h : Dels p l m i j) (hx : m[j]? = some x) (hp : p x = true) : Dels p l m i (j + 1) := by
  have hl := h.get hx
  have hlt := (List.getElem?_eq_some_iff.1 hl).1
  refine ⟨by have := h.lt; omega, by omega, h.len, ?_, ?_⟩
  · rw [h.pre, List.take_add_one, hl]; simp [hp]
  · have := congrArg (List.drop 1) h.rest
    simpa [List.drop_drop, Nat.add_comm] using this
omit [Enc α] in
theorem Dels.no {p : α → Bool} (h : Dels p l m i j) (hx : m[j]? = some x) (hp : p x = false) : Dels p l (m.set i x) (i + 1) (j + 1) := by
  have hl := h.get hx
  have hlt := (List.getElem?_eq_some_iff.1 hl).1
  have hlen := h.len
  have hij := h.lt
  refine ⟨by omega, by omega, by rw [List.length_set]; exact h.len, ?_, ?_⟩
  · rw [List.take_add_one (l := m.set i x), List.take_add_one (l := l), hl, List.take_set_of_le (Nat.le_refl _), h.pre, List.getElem?_set_self (by omega)]; simp [hp]
  · rw [List.drop_set_of_lt (by omega)]
    have := congrArg (List.drop 1) h.rest
    simpa [List.drop_drop, Nat.add_comm] using this
omit [Enc α] in
theorem Dels.done {p : α → Bool} (h : Dels p l m i j) (hj : l.length ≤ j) : m.take i = l.filter fun x => !p x := by rw [h.pre, List.take_of_length_le hj]
omit [Enc α] in
/-- The first that is struck. -/
theorem Dels.start {p : α → Bool} {i : Nat} (h : ∀ t x, t < i → l[t]? = some x → p x = false) (hx : l[i]? = some x) (hp : p x = true) : Dels p l l i (i + 1) := by
  have hlt := (List.getElem?_eq_some_iff.1 hx).1
  refine ⟨by omega, by omega, rfl, ?_, rfl⟩
  rw [List.take_add_one, hx, List.filter_append]
  have : (l.take i).filter (fun x => !p x) = l.take i := by
    rw [List.filter_eq_self]
    intro y hy
    obtain ⟨t, ht⟩ := List.mem_iff_getElem?.1 hy
    rw [List.getElem?_take] at ht
    split at ht
    · rename_i hti; simp [h t y hti ht]
    · cases ht
  rw [this]; simp [hp]
/-! ### loops that gather -/
end

/-- The first place at which p holds; -1: none. -/
def idxF {α : Type} (p : α → Bool) (l : List α) : Int := if l.any p then ((l.findIdx p : Nat) : Int) else -1
section
variable {α : Type} {l : List α} {p : α → Bool} {x : α} {j : Nat}
end

section
variable {P : Program} {w : World} {t T ty : TypeId} {k by_ : Nat}
/-- The zero of an element: cells of one word each. -/
def zerosB (P : Program) (T : TypeId) : Bool := match P.info? T with
  | some i => match i.zero with
    | some z => z.cells.toList.all fun u => u.oneCell'
    | none => false
  | none => false
end
section
variable {E : Env} {k : List Fr} {l : Sl} {L : List Ob} {all os : List Oper} {o : Oper} {i : Nat}
end
theorem Hs.front {w0 w : World} {A Y R : List Ob} (h : Hs w0 (A ++ (Y ++ R)) w) : Hs w0 (Y ++ (A ++ R)) w :=
  h.perm (by rw [← List.append_assoc, ← List.append_assoc]; exact (List.perm_append_comm).append_right _)
end Go.Proofs.Ytoljahfofkmdaaa

/-! Rows by rising keys: plain laws. -/
namespace Go.Proofs.Ytoljahfofkmdaaa
open Go Go.RowKit

/-- Keys rise. -/
def Ris {α : Type} (f : α → Int) (l : List α) : Prop := l.Pairwise fun x y => f x < f y
/-- The same, asked pair by pair. -/
def risK {α : Type} (f : α → Int) : List α → Bool
  | [] => true
  | [_] => true
  | x :: y :: l => decide (f x < f y) && risK f (y :: l)
def getK {α : Type} (f : α → Int) (l : List α) (k : Int) : Option α := l.find? fun x => decide (f x = k)
section
variable {α : Type} {f : α → Int} {l l' : List α} {x y z : α} {k : Int} {i j n : Nat}
theorem ris_iffK : ∀ l : List α, risK f l = true ↔ Ris f l
  | [] => by simp [risK, Ris]
  | [x] => by simp [risK, Ris]
  | x :: y :: l => by
    rw [risK, Bool.and_eq_true, decide_eq_true_eq, ris_iffK (y :: l)]
    unfold Ris
    rw [List.pairwise_cons (a := x)]
    constructor
    · rintro ⟨h1, h2⟩
      refine ⟨fun z hz => ?_, h2⟩
      rcases List.mem_cons.1 hz with rfl | hz
      · exact h1
      · have := (List.pairwise_cons.1 h2).1 z hz; omega
    · rintro ⟨h1, h2⟩; exact ⟨h1 y (List.mem_cons_self ..), h2⟩
theorem Ris.at (h : Ris f l) (hij : i < j) (hx : l[i]? = some x) (hy : l[j]? = some y) : f x < f y := by
  obtain ⟨h1, e1⟩ := List.getElem?_eq_some_iff.1 hx
  obtain ⟨h2, e2⟩ := List.getElem?_eq_some_iff.1 hy
  have := List.pairwise_iff_getElem.1 h i j h1 h2 hij
  rwa [e1, e2] at this
theorem Ris.inj (h : Ris f l) (hx : x ∈ l) (hy : y ∈ l) (e : f x = f y) : x = y := by
  obtain ⟨i, hi⟩ := List.mem_iff_getElem?.1 hx
  obtain ⟨j, hj⟩ := List.mem_iff_getElem?.1 hy
  rcases Nat.lt_trichotomy i j with h1 | h1 | h1
  · have := h.at h1 hi hj; omega
  · subst h1; rw [hi] at hj; exact Option.some.inj hj
  · have := h.at h1 hj hi; omega
/-- One more, put where it belongs. -/
def insK (f : α → Int) (l : List α) (z : α) : List α := l.take (posK f l (f z)) ++ [z] ++ l.drop (posK f l (f z))
/-- One in the place of another. -/
def putK (f : α → Int) (l : List α) (z : α) : List α := l.set (posK f l (f z)) z
/-- One left out. -/
def delK (f : α → Int) (l : List α) (k : Int) : List α := l.take (posK f l k) ++ l.drop (posK f l k + 1)
theorem Ris.filter (h : Ris f l) (p : α → Bool) : Ris f (l.filter p) := List.Pairwise.filter _ h
/-- Rows whose keys are between bounds are no more than there are keys. -/
theorem risK_len : ∀ (l : List α) (lo hi : Int), Ris f l → (∀ x ∈ l, lo ≤ f x ∧ f x ≤ hi) → lo ≤ hi + 1 → (l.length : Int) ≤ hi - lo + 1
  | [], lo, hi, _, _, h => by simp; omega
  | a :: l, lo, hi, h, hb, hlh => by
    have p := List.pairwise_cons.1 h
    have ha := hb a (List.mem_cons_self ..)
    have := risK_len l (f a + 1) hi p.2 (fun x hx => ⟨by have := p.1 x hx; omega, (hb x (List.mem_cons_of_mem _ hx)).2⟩) (by omega)
    simp only [List.length_cons]; omega
end
end Go.Proofs.Ytoljahfofkmdaaa

/-! Timers: what they are; plain. -/
namespace Go.Proofs.Ytoljahfofkmdaaa
open Go Go.RowKit

structure Tim where
  id : Int
  due : Int
deriving DecidableEq, Inhabited
instance : Enc Tim := ⟨fun x => [.int .i64 x.id, .int .i64 x.due], 2, fun _ => rfl, fun x v h => by simp at h; rcases h with rfl | rfl <;> rfl, by decide⟩
def cmpT (a b : Int) : Int := if a < b then -1 else if a > b then 1 else 0
theorem cmpT_iff (a b : Int) : (cmpT a b < 0 ↔ a < b) ∧ (cmpT a b = 0 ↔ a = b) := by unfold cmpT; constructor <;> constructor <;> intro h <;> (repeat' split at h) <;> (repeat' split) <;> omega
def idB (k : Int) : Bool := decide (0 ≤ k ∧ k < 32)
def timB (now : Int) (t : Tim) : Bool := decide (0 ≤ t.id ∧ t.id < 32 ∧ now < t.due ∧ t.due ≤ 1125899906842624)
/-- May a wheel be? -/
def wheelB (now : Int) (ts : List Tim) : Bool := decide (0 ≤ now ∧ now ≤ 1125899906842624) && risK Tim.id ts && ts.all (timB now)
structure GoodW (now : Int) (ts : List Tim) : Prop where
  n0 : 0 ≤ now
  n1 : now ≤ 1125899906842624
  rs : Ris Tim.id ts
  tm : ∀ t ∈ ts, 0 ≤ t.id ∧ t.id < 32 ∧ now < t.due ∧ t.due ≤ 1125899906842624
section
variable {now k : Int} {ts : List Tim} {x t : Tim} {j : Nat}
theorem GoodW.len (h : GoodW now ts) : ts.length ≤ 32 := by
  have := risK_len ts 0 31 h.rs (fun t ht => by have := h.tm t ht; omega) (by omega)
  omega
theorem all_onT {α : Type} {l : List α} {x : α} {p : α → Prop} (h : ∀ y ∈ l.take j, p y) (hx : l[j]? = some x) (e : p x) : ∀ y ∈ l.take (j + 1), p y := by
  rw [List.take_add_one, hx]
  intro y hy
  rcases List.mem_append.1 hy with hy | hy
  · exact h y hy
  · simp only [Option.toList_some, List.mem_singleton] at hy; subst hy; exact e
theorem all_take0T {α : Type} {l : List α} {p : α → Prop} : ∀ y ∈ l.take 0, p y := by simp
theorem ris_take0T {α : Type} {f : α → Int} {l : List α} : Ris f (l.take 0) := by rw [List.take_zero]; exact List.Pairwise.nil
theorem ris_take_onT {α : Type} {f : α → Int} {l : List α} {x : α} (h : Ris f (l.take j)) (hx : l[j]? = some x) (hp : j = 0 ∨ ∃ y, l[j - 1]? = some y ∧ f y < f x) : Ris f (l.take (j + 1)) := by
  rw [List.take_add_one, hx]
  refine List.pairwise_append.2 ⟨h, by simp, fun a ha b hb => ?_⟩
  simp only [Option.toList_some, List.mem_singleton] at hb
  subst hb
  obtain ⟨i, hi⟩ := List.mem_iff_getElem?.1 ha
  have hij : i < j := by
    have := (List.getElem?_eq_some_iff.1 hi).1
    simp only [List.length_take] at this
    omega
  rcases hp with rfl | ⟨y, hy, hlt⟩
  · omega
  · by_cases e : i = j - 1
    · subst e
      rw [List.getElem?_take, if_pos hij, hy] at hi
      cases hi; exact hlt
    · have hy' : (l.take j)[j - 1]? = some y := by rw [List.getElem?_take, if_pos (by omega)]; exact hy
      have := h.at (show i < j - 1 by omega) hi hy'
      omega
end
section
variable {α : Type} {l l2 : List α} {x y : α} {j : Nat}
theorem dsame_on (h : l.take j = l2.take j) (hx : l[j]? = some x) (hy : l2[j]? = some y) (e : x = y) : l.take (j + 1) = l2.take (j + 1) := by
  rw [List.take_add_one, List.take_add_one, h, hx, hy, e]
theorem dsame_no [DecidableEq α] (hx : l[j]? = some x) (hy : l2[j]? = some y) (e : ¬ x = y) : false = decide (l = l2) := by
  refine (decide_eq_false fun h => e ?_).symm
  rw [h, hy] at hx
  exact (Option.some.inj hx).symm
theorem dsame_yes [DecidableEq α] (h : l.take j = l2.take j) (h1 : l.length ≤ j) (h2 : l2.length ≤ j) : true = decide (l = l2) := by
  rw [List.take_of_length_le h1, List.take_of_length_le h2] at h
  exact (decide_eq_true h).symm
theorem dsame_len [DecidableEq α] (h : ¬ l.length = l2.length) : false = decide (l = l2) := (decide_eq_false fun e => h (by rw [e])).symm
end
section
variable {α : Type} {f : α → Int} {l : List α} {x y : α} {k : Int} {j : Nat}
end
/-- When a timer is due, of a wheel that may be. -/
def atO (now : Int) (ts : List Tim) (k : Int) : Option Tim := if wheelB now ts = true then getK Tim.id ts k else none
def atV (o : Option Tim) : Value := match o with
  | some x => .tuple #[.int .i64 x.due, .bool true]
  | none => .tuple #[.int .i64 0, .bool false]
end Go.Proofs.Ytoljahfofkmdaaa

/-! Fractions: what they are, what is reckoned with them; plain. -/
namespace Go.Proofs.Ytoljahfofkmdaaa
open Go Go.RowKit

structure Fq where
  hi : Int
  lo : Int
  w : Int
deriving DecidableEq, Inhabited
instance : Enc Fq := ⟨fun x => [.int .u64 x.hi, .int .u64 x.lo, .int .u64 x.w], 3, fun _ => rfl, fun x v h => by simp at h; rcases h with rfl | rfl | rfl <;> rfl, by decide⟩
abbrev zF : Fq := ⟨0, 0, 0⟩
def numV (h l : Int) : Int := h * 18446744073709551616 + l
def Fq.num (f : Fq) : Int := numV f.hi f.lo
structure Fq.U (f : Fq) : Prop where
  h0 : 0 ≤ f.hi
  h1 : f.hi < 18446744073709551616
  l0 : 0 ≤ f.lo
  l1 : f.lo < 18446744073709551616
  w0 : 0 ≤ f.w
  w1 : f.w < 18446744073709551616
def wB (w : Int) : Bool := decide (1 ≤ w ∧ w ≤ 65535)
def Fq.ok (f : Fq) : Bool := wB f.w && decide (f.hi < 68719476736)
def hiV (n : Int) : Int := n / 18446744073709551616
def loV (n : Int) : Int := n % 18446744073709551616
abbrev mkF (n w : Int) : Fq := ⟨hiV n, loV n, w⟩
def cmpI (a b : Int) : Int := if a < b then -1 else if b < a then 1 else 0
def cmpF (a b : Fq) : Int := if (a.ok && b.ok) = true then cmpI (a.num * b.w) (b.num * a.w) else 0
def withV (w h l e : Int) : Fq × Int := if e = 0 ∧ h < 68719476736 then (⟨h, l, w⟩, 0) else (zF, 131)
def subV (a b : Int) : Int := if a < b then 0 else a - b
def addV (f : Fq) (n : Int) : Fq × Int := if f.ok = true then withV f.w (hiV (f.num + n)) (loV (f.num + n)) 0 else (zF, 150)
def lessV (f : Fq) (n : Int) : Fq × Int := if f.ok = true then (mkF (subV f.num n) f.w, 0) else (zF, 150)
def upD (a d : Int) : Int := (a + d - 1) / d
def overV (f : Fq) (w : Int) : Fq × Int := if f.ok = true then (if wB w = true then withV w (hiV (upD (f.num * w) f.w)) (loV (upD (f.num * w) f.w)) 0 else (zF, 2)) else (zF, 150)
def floorV (t : Fq) (s : Int) : Fq := mkF (subV t.num (s * t.w)) t.w
def behV (f t : Fq) (s : Int) : Bool := (f.ok && t.ok) && decide (cmpF f (floorV t s) < 0)
def raiseV (f t : Fq) (s : Int) : Fq × Int := if (f.ok && t.ok) = true then (if behV f t s = true then overV (floorV t s) f.w else (f, 0)) else (zF, 150)

theorem all1 (a : Fq) : List.all [a] Fq.ok = a.ok := Bool.and_true _
theorem all2 (a b : Fq) : List.all [a, b] Fq.ok = (a.ok && b.ok) := by show (a.ok && (b.ok && true)) = _; rw [Bool.and_true]
theorem allF_no {l : List Fq} {j : Nat} {x : Fq} (hx : l[j]? = some x) (h : x.ok = false) : l.all Fq.ok = false := by rw [List.all_eq_false]; exact ⟨x, List.mem_of_getElem? hx, by rw [h]; decide⟩
theorem allF_yes {l : List Fq} {j : Nat} (h : ∀ y ∈ l.take j, y.ok = true) (hj : l.length ≤ j) : l.all Fq.ok = true := by rw [List.take_of_length_le hj] at h; exact List.all_eq_true.2 h
section
variable {a b f t : Fq} {n w s x y h l e : Int}
theorem and_l {p q : Bool} (h : (p && q) = true) : p = true := (Bool.and_eq_true p q ▸ h).1
theorem and_r {p q : Bool} (h : (p && q) = true) : q = true := (Bool.and_eq_true p q ▸ h).2
theorem wB_iff : wB w = true ↔ 1 ≤ w ∧ w ≤ 65535 := by unfold wB; rw [decide_eq_true_eq]
theorem ok_iff : f.ok = true ↔ (1 ≤ f.w ∧ f.w ≤ 65535) ∧ f.hi < 68719476736 := by unfold Fq.ok; rw [Bool.and_eq_true, wB_iff, decide_eq_true_eq]
theorem wB_of (h : f.ok = true) : wB f.w = true := wB_iff.2 (ok_iff.1 h).1
theorem ok_noW (h : wB f.w = false) : f.ok = false := by unfold Fq.ok; rw [h]; rfl
theorem ok_noH (h : ¬ f.hi < 68719476736) : f.ok = false := by unfold Fq.ok; rw [decide_eq_false h, Bool.and_false]
theorem ok_yesW (h : wB f.w = true) (h2 : f.hi < 68719476736) : f.ok = true := by unfold Fq.ok; rw [h, decide_eq_true h2]; rfl
theorem num_hl (h0 : 0 ≤ l) (h1 : l < 18446744073709551616) : hiV (numV h l) = h ∧ loV (numV h l) = l := by unfold hiV loV numV; omega
theorem Fq.U.hl (h : f.U) : hiV f.num = f.hi ∧ loV f.num = f.lo := num_hl h.l0 h.l1
theorem Fq.U.n0 (h : f.U) : 0 ≤ f.num := by have := h.h0; have := h.l0; unfold Fq.num numV; omega
theorem num_lt (h : f.U) (hk : f.ok = true) : f.num < 1267650600228229401496703205376 := by have := (ok_iff.1 hk).2; have := h.l1; unfold Fq.num numV; omega
theorem num_big (h : f.U) : f.num < 340282366920938463463374607431768211456 := by have := h.h1; have := h.l1; unfold Fq.num numV; omega
theorem z_U : zF.U := by constructor <;> decide
theorem mul_lt (h0 : 0 ≤ x) (h1 : x < 1267650600228229401496703205376) (h2 : 0 ≤ w) (h3 : w ≤ 65535) : 0 ≤ x * w ∧ x * w < 340282366920938463463374607431768211456 := by
  refine ⟨Int.mul_nonneg h0 h2, ?_⟩
  have h4 : x * w ≤ 1267650600228229401496703205376 * w := Int.mul_le_mul_of_nonneg_right (by omega) h2
  omega
theorem sub_lt (h : x < y) : subV x y = 0 := by unfold subV; rw [if_pos h]
theorem cmpF_no (h : (a.ok && b.ok) = false) : cmpF a b = 0 := by unfold cmpF; rw [h]; rfl
theorem cmpF_yes (h : (a.ok && b.ok) = true) : cmpF a b = cmpI (a.num * b.w) (b.num * a.w) := by unfold cmpF; rw [if_pos h]
end
end Go.Proofs.Ytoljahfofkmdaaa

/-! Runners and queues: what they are; plain. -/
namespace Go.Proofs.Ytoljahfofkmdaaa
open Go Go.RowKit

structure Rn where
  id : Int
  each : Int
  th : Int
  tl : Int
  tw : Int
deriving DecidableEq, Inhabited
instance : Enc Rn := ⟨fun x => [.int .i64 x.id, .int .i64 x.each, .int .u64 x.th, .int .u64 x.tl, .int .u64 x.tw], 5, fun _ => rfl, fun x v h => by simp at h; rcases h with rfl | rfl | rfl | rfl | rfl <;> rfl, by decide⟩
abbrev zR : Rn := ⟨0, 0, 0, 0, 0⟩
def Rn.t (r : Rn) : Fq := ⟨r.th, r.tl, r.tw⟩
structure Rn.U (r : Rn) : Prop where
  i0 : -9223372036854775808 ≤ r.id
  i1 : r.id ≤ 9223372036854775807
  e0 : -9223372036854775808 ≤ r.each
  e1 : r.each ≤ 9223372036854775807
  t : r.t.U
def idV (n : Int) : Bool := decide (1 ≤ n ∧ n ≤ 16)
def eachV (n : Int) : Bool := decide (1 ≤ n ∧ n ≤ 8)
def rnB (r : Rn) : Bool := idV r.id && (eachV r.each && r.t.ok)
def chkQ (ts : List Rn) : Bool := risK Rn.id ts && ts.all rnB
structure GoodQ (ts : List Rn) : Prop where
  rs : Ris Rn.id ts
  rn : ∀ r ∈ ts, rnB r = true
/-- The difference of two whole numbers, as a machine reckons it. -/
def subW (a b : Int) : Int := IntKind.i64.wrap (a - b)
def topS (s : Fq × Bool) (r : Rn) : Fq × Bool := if s.2 = false ∨ 0 < cmpF r.t s.1 then (r.t, true) else s
/-- The first greatest time. -/
def topV (ts : List Rn) : Fq × Bool := ts.foldl topS (zF, false)
def topQ (ts : List Rn) : Fq × Bool := if chkQ ts = true then topV ts else (zF, false)
def getQ (ts : List Rn) (k : Int) : Option Rn := if chkQ ts = true then getK Rn.id ts k else none
def getO (o : Option Rn) : Value := match o with
  | some x => .tuple #[.agg #[.int .i64 x.id, .int .i64 x.each, .int .u64 x.th, .int .u64 x.tl, .int .u64 x.tw], .bool true]
  | none => .tuple #[.agg #[.int .i64 0, .int .i64 0, .int .u64 0, .int .u64 0, .int .u64 0], .bool false]
section
variable {ts : List Rn} {x y r : Rn} {j i : Nat} {k a b : Int}
theorem idV_iff : idV k = true ↔ 1 ≤ k ∧ k ≤ 16 := by unfold idV; rw [decide_eq_true_eq]
theorem eachV_iff : eachV k = true ↔ 1 ≤ k ∧ k ≤ 8 := by unfold eachV; rw [decide_eq_true_eq]
theorem rnB_iff : rnB r = true ↔ (1 ≤ r.id ∧ r.id ≤ 16) ∧ (1 ≤ r.each ∧ r.each ≤ 8) ∧ r.t.ok = true := by unfold rnB; rw [Bool.and_eq_true, Bool.and_eq_true, idV_iff, eachV_iff]
theorem rn_noI (h : idV r.id = false) : rnB r = false := by unfold rnB; rw [h]; rfl
theorem rn_noE (h : eachV r.each = false) : rnB r = false := by unfold rnB; rw [h, Bool.false_and, Bool.and_false]
theorem rn_noT (h : r.t.ok = false) : rnB r = false := by unfold rnB; rw [h, Bool.and_false, Bool.and_false]
theorem rn_yes (h1 : idV r.id = true) (h2 : eachV r.each = true) (h3 : r.t.ok = true) : rnB r = true := by unfold rnB; rw [h1, h2, h3]; rfl
theorem chk_iff : chkQ ts = true ↔ GoodQ ts := by
  unfold chkQ
  rw [Bool.and_eq_true, List.all_eq_true, ris_iffK]
  exact ⟨fun h => ⟨h.1, h.2⟩, fun h => ⟨h.rs, h.rn⟩⟩
theorem GoodQ.bnd (h : GoodQ ts) (hx : x ∈ ts) : 1 ≤ x.id ∧ x.id ≤ 16 ∧ 1 ≤ x.each ∧ x.each ≤ 8 ∧ x.t.ok = true := by have := rnB_iff.1 (h.rn x hx); exact ⟨this.1.1, this.1.2, this.2.1.1, this.2.1.2, this.2.2⟩
theorem GoodQ.len (h : GoodQ ts) : ts.length ≤ 16 := by
  have := risK_len ts 1 16 h.rs (fun t ht => by have := h.bnd ht; omega) (by omega)
  omega
theorem chk_badR (hx : ts[j]? = some x) (h : rnB x = false) : chkQ ts = false := by
  cases e : chkQ ts with
  | false => rfl
  | true => rw [(chk_iff.1 e).rn x (List.mem_of_getElem? hx)] at h; cases h
theorem chk_badI (hx : ts[j]? = some x) (hy : ts[i]? = some y) (hij : i < j) (h : x.id ≤ y.id) : chkQ ts = false := by
  cases e : chkQ ts with
  | false => rfl
  | true => have := (chk_iff.1 e).rs.at hij hy hx; omega
theorem chk_good (hr : Ris Rn.id (ts.take j)) (ha : ∀ y ∈ ts.take j, rnB y = true) (hj : ts.length ≤ j) : chkQ ts = true := by
  rw [List.take_of_length_le hj] at hr ha
  exact chk_iff.2 ⟨hr, ha⟩
/-- The last number so far. -/
def lastI (ts : List Rn) (j : Nat) : Int := match j with
  | 0 => 0
  | j + 1 => (ts[j]?.map Rn.id).getD 0
theorem last_on (hx : ts[j]? = some x) : lastI ts (j + 1) = x.id := by show (ts[j]?.map Rn.id).getD 0 = _; rw [hx]; rfl
theorem last_at (h : lastI ts j = k) (hj : j ≤ ts.length) : j = 0 ∧ k = 0 ∨ ∃ y, 0 < j ∧ ts[j - 1]? = some y ∧ y.id = k := by
  match j, h with
  | 0, h => exact .inl ⟨rfl, h.symm⟩
  | j + 1, h =>
    refine .inr ⟨ts[j]'(by omega), by omega, List.getElem?_eq_getElem (by omega), ?_⟩
    rw [← h, last_on (List.getElem?_eq_getElem (by omega))]
theorem chk_badL (hx : ts[j]? = some x) (hl : lastI ts j = k) (hb : rnB x = true) (h : x.id ≤ k) : chkQ ts = false := by
  have hj := (List.getElem?_eq_some_iff.1 hx).1
  rcases last_at hl (by omega) with ⟨_, rfl⟩ | ⟨y, h0, hy, hk⟩
  · have := rnB_iff.1 hb; omega
  · exact chk_badI hx hy (by omega) (by omega)
theorem ris_onL (hr : Ris Rn.id (ts.take j)) (hx : ts[j]? = some x) (hl : lastI ts j = k) (h : k < x.id) : Ris Rn.id (ts.take (j + 1)) := by
  have hj := (List.getElem?_eq_some_iff.1 hx).1
  rcases last_at hl (by omega) with ⟨h0, _⟩ | ⟨y, h0, hy, hk⟩
  · exact ris_take_onT hr hx (.inl h0)
  · exact ris_take_onT hr hx (.inr ⟨y, hy, by omega⟩)
end
end Go.Proofs.Ytoljahfofkmdaaa
