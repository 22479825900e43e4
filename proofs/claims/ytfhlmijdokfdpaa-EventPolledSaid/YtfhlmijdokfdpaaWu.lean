/- A region that draws its order, walked once in the order of the text, where an operation may hand back any value of a set (a new box, a slice in new memory). -/
import Derived.Test.YtfhlmijdokfdpaaCalm
namespace Go.Proofs.Ytfhlmijdokfdpaa
open Go

/-- What each operation that has come up left behind (a store: what it stored). -/
abbrev Rec := Nat → Option Value
def noRec : Rec := fun _ => none
def setRec (δ : Rec) (i : Nat) (v : Value) : Rec := fun j => if j = i then some v else δ j
theorem setRec_self (δ : Rec) (i : Nat) (v : Value) : setRec δ i v i = some v := by simp [setRec]
theorem setRec_ne (δ : Rec) {i j : Nat} (v : Value) (h : j ≠ i) : setRec δ i v j = δ j := by simp [setRec, h]

def recOf (o : Oper) (a : Act) (v : Value) : Value := match o.op with | .store _ _ y => a.eval y | _ => v

section
variable {P : Program} {ops : Array Oper} {C : Rec → World → Prop} {S : Nat → Array Value → Value → Prop}

def setUpon (P : Program) (R : Value → World → Prop) : Result Next → Prop
  | .ok (.value u) w' => R u w'
  | .ok .skip w' => R undef w'
  | .ok (.enter f args) w' => Calls P f args w' (fun e w'' => ∃ v, e = .returned v ∧ R v w'')
  | _ => False

theorem setUpon_mono {R R' : Value → World → Prop} (h : ∀ v w, R v w → R' v w) : ∀ r, setUpon P R r → setUpon P R' r
  | .ok (.value _) _, hr => h _ _ hr
  | .ok .skip _, hr => h _ _ hr
  | .ok (.enter _ _) _, hr => Calls.mono hr fun _ _ ⟨v, he, hv⟩ => ⟨v, he, h _ _ hv⟩

/-- It has not come up; what it waits for has; and what has come up had all that it waits for. -/
structure NowR (ops : Array Oper) (i : Nat) (o : Oper) (δ : Rec) : Prop where
  not : δ i = none
  deps : ∀ e ∈ o.after, Region.binds .any e = true → (δ e.on).isSome = true
  shut : ∀ k ok, ops[k]? = some ok → (δ k).isSome = true → ∀ e ∈ ok.after, Region.binds .any e = true → (δ e.on).isSome = true

/-- The operands that this operation reads are what has been left behind. -/
def Agree (ops : Array Oper) (δ : Rec) (o : Oper) (a : Act) : Prop :=
  ∀ k ok d u, ops[k]? = some ok → ok.dst = some d → Operand.tmp d ∈ o.op.operands.toList → δ k = some u → a.eval (.tmp d) = u

def vals (a : Act) (o : Oper) : Array Value := o.op.operands.map a.eval

def setOp (P : Program) (ops : Array Oper) (C : Rec → World → Prop) (S : Nat → Array Value → Value → Prop) (i : Nat) (o : Oper) (a : Act) : Prop :=
  ∀ δ w, C δ w → NowR ops i o δ → Agree ops δ o a → setUpon P (fun v w' => S i (vals a o) v ∧ C (setRec δ i (recOf o a v)) w') ((execOp a.eval o).run P w)

/-- The walk in the order of the text, from operation i on. -/
def wpSet (P : Program) (ops : Array Oper) (C : Rec → World → Prop) (S : Nat → Array Value → Value → Prop) (Q : Act → Prop) : List Oper → Nat → Act → Prop
  | [], _, a => Q a
  | o :: rest, i, a =>
    if Region.wanted o (yielded ops a.tmps) then setOp P ops C S i o a ∧ (∃ v, S i (vals a o) v) ∧ ∀ v, S i (vals a o) v → wpSet P ops C S Q rest (i + 1) (a.put o.dst v)
    else (∀ δ w, C δ w → NowR ops i o δ → C (setRec δ i undef) w) ∧ wpSet P ops C S Q rest (i + 1) (a.put o.dst undef)

/-- What operation i may put into its slot. -/
def Out (ops : Array Oper) (S : Nat → Array Value → Value → Prop) (i : Nat) (o : Oper) (a : Act) (v : Value) : Prop :=
  if Region.wanted o (yielded ops a.tmps) then S i (vals a o) v else v = undef

def LeavesR (P : Program) (ops : Array Oper) (C : Rec → World → Prop) (S : Nat → Array Value → Value → Prop) (i : Nat) (o : Oper) (a : Act) : Prop :=
  (Region.wanted o (yielded ops a.tmps) = true ∧ setOp P ops C S i o a) ∨
  (Region.wanted o (yielded ops a.tmps) = false ∧ ∀ δ w, C δ w → NowR ops i o δ → C (setRec δ i undef) w)

theorem eval_of_apart {o : Oper} {a : Act} {d : Option Tmp} {v : Value} (h : ∀ t, d = some t → t ∉ o.looksAt ops) {x : Operand} (hx : x ∈ o.op.operands.toList) : (a.put d v).eval x = a.eval x :=
  Act.eval_put fun t ht hxt => h t ht (by subst hxt; exact List.mem_append_left _ (List.mem_filterMap.2 ⟨.tmp t, hx, rfl⟩))

theorem vals_put {o : Oper} {a : Act} {d : Option Tmp} {v : Value} (h : ∀ t, d = some t → t ∉ o.looksAt ops) : vals (a.put d v) o = vals a o := by
  unfold vals
  apply Array.map_congr_left
  intro x hx
  exact eval_of_apart h (by simpa using hx)

theorem recOf_put {o : Oper} {a : Act} {d : Option Tmp} {u v : Value} (h : ∀ t, d = some t → t ∉ o.looksAt ops) : recOf o (a.put d u) v = recOf o a v := by
  have key := fun x hx => eval_of_apart (a := a) (v := u) h (x := x) hx
  unfold recOf
  cases hop : o.op with
  | store T x y => exact key y (by simp [hop, Op.operands])
  | _ => rfl

theorem agree_put {δ : Rec} {o : Oper} {a : Act} {d : Option Tmp} {u : Value} (h : ∀ t, d = some t → t ∉ o.looksAt ops) : Agree ops δ o (a.put d u) ↔ Agree ops δ o a := by
  unfold Agree
  refine forall_congr' fun k => forall_congr' fun ok => forall_congr' fun t => forall_congr' fun x => ?_
  refine forall_congr' fun _ => forall_congr' fun _ => forall_congr' fun hm => ?_
  rw [eval_of_apart h hm]

theorem setOp_put {i : Nat} {o : Oper} {a : Act} {d : Option Tmp} {u : Value} (hs : ∀ cs b, o.op ≠ .select cs b) (h : ∀ t, d = some t → t ∉ o.looksAt ops) : setOp P ops C S i o (a.put d u) ↔ setOp P ops C S i o a := by
  unfold setOp
  rw [execOp_put o hs a d u h, vals_put h]
  refine forall_congr' fun δ => forall_congr' fun w => ?_
  rw [agree_put h]
  refine forall_congr' fun _ => forall_congr' fun _ => forall_congr' fun _ => ?_
  have e : (fun v w' => S i (vals a o) v ∧ C (setRec δ i (recOf o (a.put d u) v)) w') = (fun v w' => S i (vals a o) v ∧ C (setRec δ i (recOf o a v)) w') := by
    funext v w'; rw [recOf_put h]
  rw [e]

theorem leavesR_put {i : Nat} {o : Oper} {a : Act} {d : Option Tmp} {u : Value} (hs : ∀ cs b, o.op ≠ .select cs b) (h : ∀ t, d = some t → t ∉ o.looksAt ops) : LeavesR P ops C S i o (a.put d u) ↔ LeavesR P ops C S i o a := by
  unfold LeavesR
  rw [setOp_put hs h, wanted_put o a d u h]

theorem out_put {i : Nat} {o : Oper} {a : Act} {d : Option Tmp} {u v : Value} (h : ∀ t, d = some t → t ∉ o.looksAt ops) : Out ops S i o (a.put d u) v ↔ Out ops S i o a v := by
  unfold Out
  rw [wanted_put o a d u h, vals_put h]

/-- Whatever order is picked from here on. -/
def wpAnyR (P : Program) (ops : Array Oper) (C : Rec → World → Prop) (S : Nat → Array Value → Value → Prop) (Q : Act → Prop) : Nat → Array Bool → Act → Prop
  | 0, listed, a => Region.ready .any ops listed = [] ∧ Q a ∧ ∀ j, j < ops.size → listed.getD j false = true
  | fuel + 1, listed, a =>
    (Region.ready .any ops listed = [] → Q a ∧ ∀ j, j < ops.size → listed.getD j false = true) ∧
    ∀ i ∈ Region.ready .any ops listed, ∃ o, ops[i]? = some o ∧ LeavesR P ops C S i o a ∧ (∃ v, Out ops S i o a v) ∧ ∀ v, Out ops S i o a v → wpAnyR P ops C S Q fuel (listed.setIfInBounds i true) (a.put o.dst v)

theorem wpAnyR_first {Q : Act → Prop} {i : Nat} {oi : Oper} (hi : ops[i]? = some oi) (hsel : ∀ (j : Nat) (o : Oper) cs b, ops[j]? = some o → o.op ≠ .select cs b) :
    ∀ (fuel : Nat) (listed : Array Bool) (a : Act),
      (∀ j oj, ops[j]? = some oj → j ≠ i → listed.getD j true = false → (∀ e ∈ oj.after, Region.binds .any e = true → e.on ≠ i) → oi.apart ops oj = true) →
      i ∈ Region.ready .any ops listed → LeavesR P ops C S i oi a → (∃ v, Out ops S i oi a v) →
      (∀ v, Out ops S i oi a v → wpAnyR P ops C S Q fuel (listed.setIfInBounds i true) (a.put oi.dst v)) → wpAnyR P ops C S Q (fuel + 1) listed a := by
  intro fuel
  induction fuel with
  | zero =>
    intro listed a _ hr hy hx H
    refine ⟨fun h => (by rw [h] at hr; cases hr), fun j hj => ?_⟩
    by_cases hji : j = i
    · subst hji; exact ⟨oi, hi, hy, hx, H⟩
    · obtain ⟨v0, hv0⟩ := hx
      have := ready_mono hj hji
      rw [(H v0 hv0).1] at this
      cases this
  | succ fuel ih =>
    intro listed a hfree hr hy hx H
    refine ⟨fun h => (by rw [h] at hr; cases hr), fun j hj => ?_⟩
    by_cases hji : j = i
    · subst hji; exact ⟨oi, hi, hy, hx, H⟩
    · obtain ⟨v0, hv0⟩ := hx
      obtain ⟨oj, hoj, hyj, hxj, _⟩ := (H v0 hv0).2 j (ready_mono hj hji)
      obtain ⟨hjun, oj', hoj', hall⟩ := mem_ready.1 hj
      obtain rfl : oj = oj' := Option.some.inj (hoj.symm.trans hoj')
      have hnot : ∀ e ∈ oj.after, Region.binds .any e = true → e.on ≠ i := fun e he hb heq => by
        have h1 := hall e he hb
        have h0 := (mem_ready.1 hr).1
        rw [heq] at h1
        rcases Nat.lt_or_ge i listed.size with h' | h'
        · simp [h'] at h0 h1; rw [h0] at h1; cases h1
        · simp [Array.getElem?_eq_none h'] at h1
      have hap := hfree j oj hoj hji hjun hnot
      obtain ⟨h1, h2, h3⟩ := Oper.apart_spec hap
      have hsj : ∀ cs b, oj.op ≠ .select cs b := fun cs b => hsel j oj cs b hoj
      have hsi : ∀ cs b, oi.op ≠ .select cs b := fun cs b => hsel i oi cs b hi
      have hfree' : ∀ k ok, ops[k]? = some ok → k ≠ i → (listed.setIfInBounds j true).getD k true = false →
          (∀ e ∈ ok.after, Region.binds .any e = true → e.on ≠ i) → oi.apart ops ok = true := fun k ok hk hki hun hno => by
        refine hfree k ok hk hki ?_ hno
        by_cases hjk : j = k
        · subst hjk; exact hjun
        · rw [getD_set_ne true hjk] at hun; exact hun
      refine ⟨oj, hoj, (leavesR_put hsj h1).1 hyj, ?_, fun u hu => ?_⟩
      · obtain ⟨u, hu⟩ := hxj
        exact ⟨u, (out_put h1).1 hu⟩
      · refine ih _ _ hfree' (ready_mono hr (Ne.symm hji)) ((leavesR_put hsi h3).2 hy) ⟨v0, (out_put h3).2 hv0⟩ fun v hv => ?_
        have hv' := (out_put h3).1 hv
        obtain ⟨oj', hoj', _, _, hrest⟩ := (H v hv').2 j (ready_mono hj hji)
        obtain rfl : oj = oj' := Option.some.inj (hoj.symm.trans hoj')
        have := hrest u ((out_put h1).2 hu)
        rw [Array.setIfInBounds_comm _ _ hji, ← Act.put_comm a v u h2]
        exact this

theorem wpAnyR_lex {Q : Act → Prop} (hs : Region.noSelect ops = true) : ∀ (l : List Oper) (k : Nat) (listed : Array Bool) (a : Act), (∀ j, l[j]? = ops[k + j]?) → listed.size = ops.size → (∀ j, j < k → listed.getD j false = true) →
    Region.lexFrom .any ops l.length k listed = true → wpSet P ops C S Q l k a → wpAnyR P ops C S Q l.length listed a
  | [], k, listed, _, hl, _, hd, hB, h => ⟨by simpa [Region.lexFrom] using hB, h, fun j hj => hd j (by
      rcases Nat.lt_or_ge j k with h' | h'
      · exact h'
      · have := hl (j - k); rw [show k + (j - k) = j by omega] at this; simp [hj] at this)⟩
  | o :: l, k, listed, a, hl, hsz, hd, hB, h => by
    have h0 : ops[k]? = some o := by simpa using (hl 0).symm
    simp only [List.length_cons, Region.lexFrom, Bool.and_eq_true] at hB
    obtain ⟨⟨hr, hf⟩, hB'⟩ := hB
    have hl' : ∀ j, l[j]? = ops[(k + 1) + j]? := fun j => by have := hl (j + 1); simpa [Nat.add_assoc, Nat.add_comm 1 j] using this
    have hy : LeavesR P ops C S k o a ∧ (∃ v, Out ops S k o a v) ∧ ∀ v, Out ops S k o a v → wpSet P ops C S Q l (k + 1) (a.put o.dst v) := by
      unfold wpSet at h
      unfold Out
      split at h
      · rename_i hw; simp only [hw, if_true]; exact ⟨.inl ⟨hw, h.1⟩, h.2.1, h.2.2⟩
      · rename_i hw; simp only [hw]; exact ⟨.inr ⟨by simpa using hw, h.1⟩, ⟨undef, rfl⟩, fun v hv => by subst hv; exact h.2⟩
    obtain ⟨hy, hx, hK⟩ := hy
    exact wpAnyR_first h0 (Region.noSelect_spec hs) l.length listed a (Region.free_spec h0 hf) (by simpa using hr) hy hx fun v hv =>
      wpAnyR_lex hs l (k + 1) _ _ hl' (by simpa using hsz) (fun j hj => by
        by_cases hjk : k = j
        · subst hjk
          have hk : k < listed.size := by rw [hsz]; exact (Array.getElem?_eq_some_iff.1 h0).1
          simp [hk]
        · rw [getD_set_ne false hjk]; exact hd j (by omega)) hB' (hK v hv)

/-- All slots that the region writes are apart, and lie within the frame; what a store stores comes from what it waits for. -/
def Region.slotsB (ops : Array Oper) (n : Nat) : Bool :=
  (List.range ops.size).all fun i => match ops[i]? with
    | none => true
    | some o => (match o.dst with
      | none => true
      | some d => decide (d < n) && (List.range ops.size).all fun j => j == i || (match ops[j]? with | some oj => oj.dst != some d | none => true)) &&
      (match o.op with
      | .store _ _ _ => o.dst == none
      | _ => true) &&
      (match o.op with
      | .store _ _ (.tmp t) => (List.range ops.size).all fun j => match ops[j]? with
        | some oj => oj.dst != some t || o.after.any (fun e => Region.binds .any e && e.on == j)
        | none => true
      | _ => true)

structure Slots (ops : Array Oper) (n : Nat) : Prop where
  nodst : ∀ (i : Nat) (o : Oper) T x y, ops[i]? = some o → o.op = .store T x y → o.dst = none
  lt : ∀ (i : Nat) (o : Oper) d, ops[i]? = some o → o.dst = some d → d < n
  ne : ∀ (i j : Nat) (o oj : Oper) d, ops[i]? = some o → ops[j]? = some oj → o.dst = some d → oj.dst = some d → j = i
  src : ∀ (i j : Nat) (o oj : Oper) T x t, ops[i]? = some o → ops[j]? = some oj → o.op = .store T x (.tmp t) → oj.dst = some t → ∃ e ∈ o.after, Region.binds .any e = true ∧ e.on = j

theorem Region.slotsB_spec {n : Nat} (h : Region.slotsB ops n = true) : Slots ops n := by
  unfold Region.slotsB at h
  rw [List.all_eq_true] at h
  refine ⟨fun i o T x y hi hop => ?_, fun i o d hi hd => ?_, fun i j o oj d hi hj hd hdj => ?_, fun i j o oj T x t hi hj hop hdj => ?_⟩
  · have := h i (List.mem_range.2 (Array.getElem?_eq_some_iff.1 hi).1)
    simp only [hi, hop, Bool.and_eq_true] at this
    simpa using this.1.2
  · have := h i (List.mem_range.2 (Array.getElem?_eq_some_iff.1 hi).1)
    simp only [hi, hd, Bool.and_eq_true, decide_eq_true_eq] at this
    exact this.1.1.1
  · have := h i (List.mem_range.2 (Array.getElem?_eq_some_iff.1 hi).1)
    simp only [hi, hd, Bool.and_eq_true, List.all_eq_true] at this
    have := this.1.1.2 j (List.mem_range.2 (Array.getElem?_eq_some_iff.1 hj).1)
    simp only [hj, hdj, Bool.or_eq_true, beq_iff_eq] at this
    rcases this with h1 | h1
    · exact h1
    · simp at h1
  · have := h i (List.mem_range.2 (Array.getElem?_eq_some_iff.1 hi).1)
    simp only [hi, hop, Bool.and_eq_true, List.all_eq_true] at this
    have := this.2 j (List.mem_range.2 (Array.getElem?_eq_some_iff.1 hj).1)
    simp only [hj, hdj, Bool.or_eq_true, Array.any_eq_true] at this
    rcases this with h1 | ⟨m, hm, h1⟩
    · simp at h1
    · simp only [Bool.and_eq_true, beq_iff_eq] at h1
      exact ⟨_, Array.getElem_mem hm, h1.1, h1.2⟩

/-- What has been left behind stands in the slots. -/
structure Whole (ops : Array Oper) (δ : Rec) (a : Act) : Prop where
  slot : ∀ (k : Nat) (ok : Oper) d u, ops[k]? = some ok → ok.dst = some d → δ k = some u → a.eval (.tmp d) = u
  kept : ∀ (k : Nat) (ok : Oper) T x y u, ops[k]? = some ok → ok.op = .store T x y → ok.guard = none → δ k = some u → u = a.eval y

theorem wanted_none {o : Oper} {y : Nat → Option Bool} (h : o.guard = none) : Region.wanted o y = true := by simp [Region.wanted, h]

theorem eval_put_self {a : Act} {d : Tmp} {v : Value} (h : d < a.tmps.size) : (a.put (some d) v).eval (.tmp d) = v := by
  simp [Act.put, Act.eval, h]
theorem eval_put_ne {a : Act} {d t : Tmp} {v : Value} (h : d ≠ t) : (a.put (some d) v).eval (.tmp t) = a.eval (.tmp t) :=
  Act.eval_put fun d' hd hx => by cases hd; cases hx; exact h rfl
theorem size_put (a : Act) (d : Option Tmp) (v : Value) : (a.put d v).tmps.size = a.tmps.size := by cases d <;> simp [Act.put]

theorem Whole.put {n i : Nat} {o : Oper} {a : Act} {δ : Rec} {v : Value} (hw : Whole ops δ a) (hs : Slots ops n) (hi : ops[i]? = some o) (hn : a.tmps.size = n) (hno : δ i = none) (hx : ∀ k ok, ops[k]? = some ok → (δ k).isSome = true → ∀ e ∈ ok.after, Region.binds .any e = true → (δ e.on).isSome = true) (r : Value)
    (hr : (∀ T x y, o.op = .store T x y → o.guard = none → r = a.eval y) ∧ ((∀ T x y, o.op ≠ .store T x y) → r = v)) : Whole ops (setRec δ i r) (a.put o.dst v) := by
  have keep : ∀ t, (∀ d, o.dst = some d → d ≠ t) → (a.put o.dst v).eval (.tmp t) = a.eval (.tmp t) := fun t ht => by
    cases hd : o.dst with
    | none => rfl
    | some d => exact eval_put_ne (ht d hd)
  refine ⟨fun k ok d u hk hd hu => ?_, fun k ok T x y u hk hop hg hu => ?_⟩
  · by_cases hki : k = i
    · subst hki
      obtain rfl : o = ok := Option.some.inj (hi.symm.trans hk)
      rw [setRec_self] at hu
      obtain rfl := Option.some.inj hu
      rw [hd, eval_put_self (by rw [hn]; exact hs.lt k o d hk hd)]
      exact (hr.2 fun T x y hop => by have := hs.nodst k o T x y hk hop; rw [hd] at this; cases this).symm
    · rw [setRec_ne _ _ hki] at hu
      rw [keep d fun d' hd' he => by subst he; exact hki (hs.ne i k o ok d' hi hk hd' hd)]
      exact hw.slot k ok d u hk hd hu
  · have hy : (a.put o.dst v).eval y = a.eval y ∨ ∃ t, y = .tmp t ∧ o.dst = some t := by
      cases y with
      | tmp t =>
        by_cases h : o.dst = some t
        · exact .inr ⟨t, rfl, h⟩
        · exact .inl (keep t fun d hd he => by subst he; exact h hd)
      | _ => exact .inl (by cases o.dst <;> rfl)
    by_cases hki : k = i
    · subst hki
      obtain rfl : o = ok := Option.some.inj (hi.symm.trans hk)
      rw [setRec_self] at hu
      obtain rfl := Option.some.inj hu
      rw [hs.nodst k o T x y hk hop]
      exact hr.1 T x y hop hg
    · rw [setRec_ne _ _ hki] at hu
      rcases hy with hy | ⟨t, rfl, hd⟩
      · rw [hy]; exact hw.kept k ok T x y u hk hop hg hu
      · obtain ⟨e, he, hb, hon⟩ := hs.src k i ok o T x t hk hi hop hd
        have := hx k ok hk (by rw [hu]; rfl) e he hb
        rw [hon, hno] at this
        cases this

theorem wpAny_of_set {n : Nat} {Q : Act → Prop} {Q' : Exit → Act → World → Prop} (hs : Slots ops n) (hQ : ∀ a δ w, C δ w → (∀ j, j < ops.size → (δ j).isSome = true) → Whole ops δ a → Q a → Q' .normal a w) :
    ∀ (fuel : Nat) (listed : Array Bool) (δ : Rec) (a : Act) (w : World), C δ w → (∀ j, listed.getD j false = (δ j).isSome) → listed.size = ops.size → Whole ops δ a → a.tmps.size = n →
      (∀ k ok, ops[k]? = some ok → (δ k).isSome = true → ∀ e ∈ ok.after, Region.binds .any e = true → (δ e.on).isSome = true) →
      wpAnyR P ops C S Q fuel listed a → wpAny P .any ops Q' fuel listed a w
  | 0, _, _, _, _, hc, hf, _, hw, _, _, h => ⟨h.1, hQ _ _ _ hc (fun j hj => by rw [← hf]; exact h.2.2 j hj) hw h.2.1⟩
  | fuel + 1, listed, δ, a, w, hc, hf, hsz, hw, hn, hx, h => ⟨fun h0 => hQ _ _ _ hc (fun j hj => by rw [← hf]; exact (h.1 h0).2 j hj) hw (h.1 h0).1, fun i hi => by
      obtain ⟨o, ho, hy, _, hr⟩ := h.2 i hi
      obtain ⟨h1, o', ho', hall⟩ := mem_ready.1 hi
      obtain rfl : o = o' := Option.some.inj (ho.symm.trans ho')
      have hno : δ i = none := by
        have := hf i
        rw [getD_both' h1] at this
        cases hd : δ i with
        | none => rfl
        | some u => rw [hd] at this; cases this
      have hnow : NowR ops i o δ := ⟨hno, fun e he hb => by rw [← hf]; exact hall e he hb, hx⟩
      have hflag : ∀ r j, (listed.setIfInBounds i true).getD j false = (setRec δ i r j).isSome := fun r j => by
        by_cases hij : i = j
        · subst hij
          have : i < listed.size := ready_lt hi
          simp [setRec, this]
        · rw [getD_set_ne false hij, hf, setRec_ne _ _ (fun e => hij e.symm)]
      have hxx : ∀ r k ok, ops[k]? = some ok → (setRec δ i r k).isSome = true → ∀ e ∈ ok.after, Region.binds .any e = true → (setRec δ i r e.on).isSome = true := fun r k ok hk hs' e he hb => by
        by_cases hon : e.on = i
        · rw [hon, setRec_self]; rfl
        · rw [setRec_ne _ _ hon]
          by_cases hki : k = i
          · subst hki
            obtain rfl : o = ok := Option.some.inj (ho.symm.trans hk)
            exact hnow.deps e he hb
          · rw [setRec_ne _ _ hki] at hs'
            exact hx k ok hk hs' e he hb
      unfold wpOp
      simp only [ho]
      rcases hy with ⟨hwant, hv⟩ | ⟨hwant, hcc⟩
      · rw [if_pos hwant]
        refine .inl ?_
        have hag : Agree ops δ o a := fun k ok d u hk hd _ hu => hw.slot k ok d u hk hd hu
        have hst := hv δ w hc hnow hag
        have go : ∀ v w', S i (vals a o) v ∧ C (setRec δ i (recOf o a v)) w' → wpAny P .any ops Q' fuel (listed.setIfInBounds i true) (a.put o.dst v) w' := fun v w' hh =>
          wpAny_of_set hs hQ fuel _ (setRec δ i (recOf o a v)) _ w' hh.2 (hflag _) (by simpa using hsz) (hw.put hs ho hn hno hx _ ⟨fun T x y hop _ => by simp [recOf, hop], fun hns => by
            unfold recOf; split
            · rename_i T x y hop; exact absurd hop (hns T x y)
            · rfl⟩) (by rw [size_put, hn]) (hxx _) (hr v (by unfold Out; rw [if_pos hwant]; exact hh.1))
        unfold Oper.wp
        generalize (execOp a.eval o).run P w = res at *
        cases res with
        | ok nx w' =>
          cases nx <;> simp only [setUpon] at hst <;> simp only [Oper.upon]
          case value u => exact go _ _ hst
          case skip => exact go _ _ hst
          case enter f args => exact hst.mono fun e w'' ⟨v, he, hh⟩ => by subst he; exact go _ _ hh
        | halt x w' => simp only [setUpon] at hst
      · rw [if_neg (by simp [hwant])]
        exact wpAny_of_set hs hQ fuel _ (setRec δ i undef) _ w (hcc δ w hc hnow) (hflag _) (by simpa using hsz) (hw.put hs ho hn hno hx _ ⟨fun T x y hop hg => (by rw [wanted_none hg] at hwant; cases hwant), fun _ => rfl⟩) (by rw [size_put, hn]) (hxx _) (hr undef (by unfold Out; rw [if_neg (by simp [hwant])]))⟩

/-- A region that draws its order, walked once in the order of the text; C tells the world by what has been left behind, S what an operation may hand back. -/
theorem wp_region_set {id : Nat} {Q : Exit → Act → World → Prop} {a : Act} {w : World} {l : List Oper} (C : Rec → World → Prop) (S : Nat → Array Value → Value → Prop) (hm : P.follows .mixedOrders = true) (hB : Region.lexB .any l.toArray = true)
    (hS : Region.slotsB l.toArray a.tmps.size = true) (hC : C noRec w.drew)
    (h : wpSet P l.toArray C S (fun a' => ∀ w' δ, C δ w' → (∀ j, j < l.length → (δ j).isSome = true) → Whole l.toArray δ a' → Q .normal a' w') l 0 a) : (Code.region id l.toArray true).wp P Q a w := by
  simp only [Region.lexB, Bool.and_eq_true] at hB
  refine wp_region_any hm (wpAny_of_set (C := C) (S := S) (n := a.tmps.size) (Q := fun a' => ∀ w' δ, C δ w' → (∀ j, j < l.length → (δ j).isSome = true) → Whole l.toArray δ a' → Q .normal a' w') (Region.slotsB_spec hS)
    (fun _ δ w' hc hd hw h => h w' δ hc (by simpa using hd) hw) _ _ noRec _ _ hC (fun j => ?_) (by simp) ⟨fun _ _ _ _ _ _ hu => (by cases hu), fun _ _ _ _ _ _ _ _ _ hu => (by cases hu)⟩ rfl (fun _ _ _ hs => (by cases hs)) ?_)
  · simp only [noRec, Option.isSome_none, Array.getD_eq_getD_getElem?, Array.getElem?_replicate]; split <;> rfl
  · have := wpAnyR_lex (P := P) (C := C) (S := S) hB.1 l 0 (Array.replicate l.toArray.size false) a (by simp) (by simp) (fun j hj => absurd hj (Nat.not_lt_zero _)) (by simpa using hB.2) h
    simpa using this
end
end Go.Proofs.Ytfhlmijdokfdpaa
