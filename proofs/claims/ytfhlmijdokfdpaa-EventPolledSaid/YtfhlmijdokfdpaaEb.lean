/- The walker: slots, operations, code. -/
import Derived.Test.YtfhlmijdokfdpaaEa
import Derived.TacticsIn
import Derived.RangeFuncLeaves
namespace Go.Proofs.Ytfhlmijdokfdpaa
open Go Go.RowKit

/-- Slots whose values are known. -/
abbrev Sl := List (Nat × Value)
structure SlR (n : Nat) (D : List Deferred) (l : Sl) (a : Act) : Prop where
  got : ∀ p ∈ l, a.tmps[p.1]? = some p.2
  size : a.tmps.size = n
  defers : a.defers = D

def look (l : Sl) : Operand → Value
  | .tmp t => (l.lookup t).getD undef
  | .const v => v
  | .global g => .pointer (some ⟨g, 0, none⟩)
  | .func f => .func (.func f) #[] #[]
def knownX (l : Sl) : Operand → Bool
  | .tmp t => (l.lookup t).isSome
  | _ => true
def knownO (l : Sl) (o : Oper) : Bool := (match o.op with | .select _ _ => false | .defer _ => false | _ => true) && o.op.operands.toList.all (knownX l)
def putL (d : Option Nat) (v : Value) (l : Sl) : Sl := match d with
  | none => l
  | some t => (t, v) :: l.filter (·.1 != t)
def okD (n : Nat) : Option Nat → Bool
  | none => true
  | some t => Nat.blt t n
def keepL (l : Sl) : List Nat → Option Sl
  | [] => some []
  | t :: ts => match l.lookup t with
    | some v => match keepL l ts with
      | some r => some ((t, v) :: r)
      | none => none
    | none => none

section
variable {n : Nat} {D : List Deferred} {l l' : Sl} {a : Act} {w : World}
theorem lookup_mem : ∀ {l : Sl} {t : Nat} {v : Value}, l.lookup t = some v → (t, v) ∈ l
  | [], _, _, h => by simp at h
  | (s, u) :: l, t, v, h => by
    rw [List.lookup_cons] at h
    split at h
    · rename_i e
      have e1 : t = s := by simpa using e
      obtain rfl := Option.some.inj h
      subst e1
      exact List.mem_cons_self ..
    · exact List.mem_cons_of_mem _ (lookup_mem h)
theorem look_eval (h : SlR n D l a) {x : Operand} (hx : knownX l x = true) : a.eval x = look l x := by
  cases x with
  | tmp t =>
    obtain ⟨v, hv⟩ := Option.isSome_iff_exists.1 hx
    have := h.got _ (lookup_mem hv)
    simp only at this
    simp [Act.eval, look, hv, this]
  | const v => rfl
  | global g => rfl
  | func f => rfl
theorem look_exec (h : SlR n D l a) {o : Oper} (ho : knownO l o = true) : execOp a.eval o = execOp (look l) o := by
  simp only [knownO, Bool.and_eq_true] at ho
  refine execOp_congr o (fun cs b e => by rw [e] at ho; cases ho.1) fun x hx => look_eval h ?_
  exact List.all_eq_true.1 ho.2 x (by simpa using hx)
theorem SlR.put (h : SlR n D l a) {d : Option Nat} (hd : okD n d = true) (v : Value) : SlR n D (putL d v l) (a.put d v) := by
  cases d with
  | none => exact h
  | some t =>
    have ht : t < a.tmps.size := by rw [h.size]; exact Nat.blt_eq ▸ hd
    refine ⟨fun p hp => ?_, by simp [Act.put, h.size], h.defers⟩
    rcases List.mem_cons.1 hp with rfl | hp
    · simp [Act.put, ht]
    · obtain ⟨h1, h2⟩ := List.mem_filter.1 hp
      have hne : p.1 ≠ t := by simpa using h2
      simp only [Act.put]
      rw [Array.getElem?_setIfInBounds_ne (Ne.symm hne)]
      exact h.got p h1
theorem SlR.sub (h : SlR n D l a) (hs : ∀ p ∈ l', p ∈ l) : SlR n D l' a := ⟨fun p hp => h.got p (hs p hp), h.size, h.defers⟩
theorem keepL_mem : ∀ {ts : List Nat} {l' : Sl}, keepL l ts = some l' → ∀ p ∈ l', p ∈ l
  | [], l', h, p, hp => by simp [keepL] at h; subst h; cases hp
  | t :: ts, l', h, p, hp => by
    simp only [keepL] at h
    split at h <;> try cases h
    rename_i v hv
    split at h <;> try cases h
    rename_i r hr
    rcases List.mem_cons.1 hp with rfl | hp
    · exact lookup_mem hv
    · exact keepL_mem hr p hp
end

/-- Which of an operation's answers are told. -/
inductive Hint where
  | go (s : List Src)
  | yes | no
  | fit
  | at (b o n : Nat)
  | is (s : List Src) (v : Value)
  | eqs (b : Bool)
  | sl (v : Value)

/-- A comparison of two values, run. -/
def EqRun (P : Program) (op : BinOp) (T : TypeId) (x y : Operand) (a b : Value) (r : Bool) : Prop := ∀ w, (do eqGuard op T x y a b; binOp op T a b : Sem Value).run P w = .ok (.bool r) w

/-- A slice expression, run. -/
def SlRun (P : Program) (T : TypeId) (x : Value) (lo hi mx : Option Value) (v : Value) : Prop := ∀ w, (Instr.sliceAt T x lo hi mx).run P w = .ok v w

def cmpP (op : BinOp) (a b : Int) : Prop := match op with
  | .eql => a = b
  | .neq => a ≠ b
  | .lss => a < b
  | .leq => a ≤ b
  | .gtr => a > b
  | .geq => a ≥ b
  | _ => False
def isCmp : BinOp → Bool
  | .eql | .neq | .lss | .leq | .gtr | .geq => true
  | _ => false
def kmin : IntKind → Int
  | .i8 => -128 | .i16 => -32768 | .i32 => -2147483648 | .i64 => -9223372036854775808 | _ => 0
def kmax : IntKind → Int
  | .i8 => 127 | .i16 => 32767 | .i32 => 2147483647 | .i64 => 9223372036854775807 | .u8 => 255 | .u16 => 65535 | .u32 => 4294967295 | .u64 => 18446744073709551615
def Fit (k : IntKind) (n : Int) : Prop := kmin k ≤ n ∧ n ≤ kmax k
theorem wrap_fit {k : IntKind} {n : Int} (h : Fit k n) : k.wrap n = n := by
  unfold Fit at h
  cases k <;> simp only [kmin, kmax] at h <;> simp only [IntKind.wrap, IntKind.bits, IntKind.signed] <;> simp <;> omega

structure St where
  l : Sl
  L : List Ob
  k : Nat
structure OutE where
  s : St
  rq : List Prop
  tr : List (Addr × Addr)

def arithI (op : BinOp) (a b : Int) : Option Int := match op with
  | .add => some (a + b)
  | .sub => some (a - b)
  | .mul => some (a * b)
  | _ => none

/-- One operation. -/
def evOp (q : Bool) (P : Program) (w0 : World) (γ : Nat → Nat) (n : Nat) (o : Oper) (h : Hint) (s : St) : Option OutE :=
  if okD n o.dst && knownO s.l o then match h with
    | .go src => match evS q P w0 γ (execOp (look s.l) o) ⟨s.L, src, s.k⟩ with
      | some r => match r.a with
        | .value v => some ⟨⟨putL o.dst v s.l, r.m.L, r.m.k⟩, r.rq, r.tr⟩
        | .skip => some ⟨⟨putL o.dst undef s.l, r.m.L, r.m.k⟩, r.rq, r.tr⟩
        | _ => none
      | none => none
    | .is src v => match evS q P w0 γ (execOp (look s.l) o) ⟨s.L, src, s.k⟩ with
      | some r => match r.a with
        | .value u => some ⟨⟨putL o.dst v s.l, r.m.L, r.m.k⟩, (u = v) :: r.rq, r.tr⟩
        | _ => none
      | none => none
    | .eqs b => match o.op with
      | .binOp op T x y _ => some ⟨⟨putL o.dst (.bool b) s.l, s.L, s.k⟩, [EqRun P op T x y (look s.l x) (look s.l y) b], []⟩
      | _ => none
    | .sl v => match o.op with
      | .slice T x lo hi mx => some ⟨⟨putL o.dst v s.l, s.L, s.k⟩, [SlRun P T (look s.l x) (lo.map (look s.l)) (hi.map (look s.l)) (mx.map (look s.l)) v], []⟩
      | _ => none
    | .fit => match o.op with
      | .convert S T x => match P.underlying T, look s.l x with
        | some (.int k), .int _ c => if (P.underlying S).isSome = true then some ⟨⟨putL o.dst (.int k c) s.l, s.L, s.k⟩, [Fit k c], []⟩ else none
        | _, _ => none
      | .binOp op _ x y _ => match look s.l x, look s.l y with
        | .int k a, .int k' b => if k = k' then match arithI op a b with
          | some c => some ⟨⟨putL o.dst (.int k c) s.l, s.L, s.k⟩, [Fit k c], []⟩
          | none => none else none
        | _, _ => none
      | _ => none
    | .at b of n => match o.op with
      | .indexAddr T x y => match P.underlying T, look s.l x, look s.l y with
        | some (.slice e), .slice p len _, .int _ i => match P.info? e with
          | some inf => some ⟨⟨putL o.dst (.pointer (some ⟨b, of + n * inf.size, none⟩)) s.l, s.L, s.k⟩, [p = some ⟨b, of, none⟩, i = n, n < len], []⟩
          | none => none
        | _, _, _ => none
      | _ => none
    | .yes => match o.op with
      | .binOp op _ x y _ => match look s.l x, look s.l y with
        | .int k a, .int k' b => if k = k' ∧ isCmp op = true then some ⟨⟨putL o.dst (.bool true) s.l, s.L, s.k⟩, [cmpP op a b], []⟩ else none
        | _, _ => none
      | _ => none
    | .no => match o.op with
      | .binOp op _ x y _ => match look s.l x, look s.l y with
        | .int k a, .int k' b => if k = k' ∧ isCmp op = true then some ⟨⟨putL o.dst (.bool false) s.l, s.L, s.k⟩, [¬ cmpP op a b], []⟩ else none
        | _, _ => none
      | _ => none
  else none

section
variable {q : Bool} {P : Program} {w0 w : World} {γ : Nat → Nat} {B n : Nat} {D : List Deferred} {l : Sl} {a : Act} {o : Oper}

theorem run_cmp {ρ : Operand → Value} {op : BinOp} {T U : TypeId} {x y : Operand} {k : IntKind} {p q : Int} (ho : o.op = .binOp op T x y U) (hx : ρ x = .int k p) (hy : ρ y = .int k q) (hc : isCmp op = true) (b : Bool) (hb : if b then cmpP op p q else ¬ cmpP op p q) (w : World) :
    (execOp ρ o).run P w = .ok (.value (.bool b)) w := by
  have e : binOp op T (.int k p) (.int k q) = Op.intCmp op p q := by
    cases op <;> simp [isCmp] at hc <;> simp [binOp]
  have g : (eqGuard op T x y (.int k p) (.int k q)) = (pure () : Sem Unit) := by
    unfold eqGuard
    cases op <;> simp [isCmp] at hc <;> simp
  unfold execOp
  simp only [ho, hx, hy, e, g]
  cases op <;> simp [isCmp] at hc <;> cases b <;> simp [cmpP] at hb <;> simp [Op.intCmp, hb] <;> omega

theorem run_arith {ρ : Operand → Value} {op : BinOp} {T U : TypeId} {x y : Operand} {k : IntKind} {p q c : Int} (ho : o.op = .binOp op T x y U) (hx : ρ x = .int k p) (hy : ρ y = .int k q) (hc : arithI op p q = some c) (hf : Fit k c) (w : World) :
    (execOp ρ o).run P w = .ok (.value (.int k c)) w := by
  have g : (eqGuard op T x y (.int k p) (.int k q)) = (pure () : Sem Unit) := by
    unfold eqGuard
    cases op <;> simp [arithI] at hc <;> simp
  unfold execOp
  simp only [ho, hx, hy, g]
  cases op <;> simp [arithI] at hc <;> subst hc <;> simp [binOp, Op.intArith, wrap_fit hf]

theorem run_at {ρ : Operand → Value} {T e : TypeId} {x y : Operand} {p : Option Addr} {len cap b of m : Nat} {k : IntKind} {i : Int} {inf : TypeInfo} (ho : o.op = .indexAddr T x y) (hx : ρ x = .slice p len cap) (hy : ρ y = .int k i) (hu : P.underlying T = some (.slice e)) (hi : P.info? e = some inf)
    (h1 : p = some ⟨b, of, none⟩) (h2 : i = m) (h3 : m < len) (w : World) : (execOp ρ o).run P w = .ok (.value (.pointer (some ⟨b, of + m * inf.size, none⟩))) w := by
  subst h1 h2
  unfold execOp
  have ha : (Addr.add ⟨b, of, none⟩ (m * inf.size)) = ⟨b, of + m * inf.size, none⟩ := by
    unfold Addr.add; split
    · rename_i h; rw [h]; rfl
    · rfl
  simp [ho, hx, hy, Instr.indexAt, asIntOf, underlying, hu, sizeOf, typeInfo, hi, h3, ha]

theorem run_conv {ρ : Operand → Value} {S T : TypeId} {x : Operand} {k k' : IntKind} {c : Int} (ho : o.op = .convert S T x) (hS : ∃ d, P.underlying S = some d) (hT : P.underlying T = some (.int k)) (hx : ρ x = .int k' c) (hf : Fit k c) (w : World) :
    (execOp ρ o).run P w = .ok (.value (.int k c)) w := by
  obtain ⟨d, hS⟩ := hS
  unfold execOp
  simp [ho, hx, convert, underlying, hS, hT, Conv.intToInt, wrap_fit hf]

theorem run_eqs {ρ : Operand → Value} {op : BinOp} {T U : TypeId} {x y : Operand} {b : Bool} (ho : o.op = .binOp op T x y U) (h : EqRun P op T x y (ρ x) (ρ y) b) (w : World) : (execOp ρ o).run P w = .ok (.value (.bool b)) w := by
  have := h w
  unfold execOp
  simp only [ho]
  rw [Sem.run_bind, this]
  rfl

theorem run_sl {ρ : Operand → Value} {T : TypeId} {x : Operand} {lo hi mx : Option Operand} {v : Value} (ho : o.op = .slice T x lo hi mx) (h : SlRun P T (ρ x) (lo.map ρ) (hi.map ρ) (mx.map ρ) v) (w : World) : (execOp ρ o).run P w = .ok (.value v) w := by
  have := h w
  unfold execOp
  simp only [ho]
  rw [Sem.run_bind, this]
  rfl

theorem evOp_run {h : Hint} {s : St} {r : OutE} (he : evOp q P w0 γ n o h s = some r) (ha : SlR n D s.l a) (ht : ∀ p ∈ r.tr, p.1 = p.2) (hq : ∀ p ∈ r.rq, p) (hs : Hs w0 s.L w) (hγ : ∀ i, γ i = B + i) (hz : w.heap.size = B + s.k) :
    ∃ w' v nx, (execOp a.eval o).run P w = .ok nx w' ∧ (nx = .value v ∨ nx = .skip ∧ v = undef) ∧ SlR n D r.s.l (a.put o.dst v) ∧ Hs w0 r.s.L w' ∧ w'.heap.size = B + r.s.k := by
  simp only [evOp] at he
  split at he <;> try cases he
  rename_i hk
  simp only [Bool.and_eq_true] at hk
  rw [look_exec ha hk.2]
  split at he
  · rename_i src
    split at he <;> try cases he
    rename_i q hq1
    split at he <;> try cases he
    · rename_i v hv
      obtain ⟨w', e1, e2, e3⟩ := evS_run _ _ q w hq1 ht hq hs hγ hz
      exact ⟨w', v, .value v, by rw [e1, hv], .inl rfl, ha.put hk.1 v, e2, e3⟩
    · rename_i hv
      obtain ⟨w', e1, e2, e3⟩ := evS_run _ _ q w hq1 ht hq hs hγ hz
      exact ⟨w', undef, .skip, by rw [e1, hv], .inr ⟨rfl, rfl⟩, ha.put hk.1 undef, e2, e3⟩
  · rename_i src v
    split at he <;> try cases he
    rename_i q hq1
    split at he <;> try cases he
    rename_i u hv
    obtain ⟨w', e1, e2, e3⟩ := evS_run _ _ q w hq1 ht (fun p hp => hq p (List.mem_cons_of_mem _ hp)) hs hγ hz
    have huv : u = v := hq _ (List.mem_cons_self ..)
    exact ⟨w', v, .value v, by rw [e1, hv, huv], .inl rfl, ha.put hk.1 v, e2, e3⟩
  · rename_i b
    split at he <;> try cases he
    rename_i op T x y U hop
    exact ⟨w, _, _, run_eqs hop (hq _ (List.mem_singleton.2 rfl)) w, .inl rfl, ha.put hk.1 _, hs, hz⟩
  · rename_i v
    split at he <;> try cases he
    rename_i T x lo hi mx hop
    exact ⟨w, _, _, run_sl hop (hq _ (List.mem_singleton.2 rfl)) w, .inl rfl, ha.put hk.1 _, hs, hz⟩
  · split at he <;> try cases he
    · rename_i S T x hop
      split at he <;> try cases he
      rename_i k k' c hT hx
      split at he <;> try cases he
      rename_i hS
      exact ⟨w, _, _, run_conv hop (Option.isSome_iff_exists.1 hS) hT hx (hq _ (List.mem_singleton.2 rfl)) w, .inl rfl, ha.put hk.1 _, hs, hz⟩
    rename_i op T x y U hop
    split at he <;> try cases he
    rename_i k p k' q hx hy
    split at he <;> try cases he
    rename_i hkk
    split at he <;> try cases he
    rename_i c hc
    subst hkk
    exact ⟨w, _, _, run_arith hop hx hy hc (hq _ (List.mem_singleton.2 rfl)) w, .inl rfl, ha.put hk.1 _, hs, hz⟩
  · rename_i b of m
    split at he <;> try cases he
    rename_i T x y hop
    split at he <;> try cases he
    rename_i e p len cap k i hu hx hy
    split at he <;> try cases he
    rename_i inf hi
    exact ⟨w, _, _, run_at hop hx hy hu hi (hq _ (by simp)) (hq _ (by simp)) (hq _ (by simp)) w, .inl rfl, ha.put hk.1 _, hs, hz⟩
  · split at he <;> try cases he
    rename_i op T x y U hop
    split at he <;> try cases he
    rename_i k p k' q hx hy
    split at he <;> try cases he
    rename_i hkk
    obtain ⟨rfl, hc⟩ := hkk
    exact ⟨w, _, _, run_cmp hop hx hy hc true (hq _ (List.mem_singleton.2 rfl)) w, .inl rfl, ha.put hk.1 _, hs, hz⟩
  · split at he <;> try cases he
    rename_i op T x y U hop
    split at he <;> try cases he
    rename_i k p k' q hx hy
    split at he <;> try cases he
    rename_i hkk
    obtain ⟨rfl, hc⟩ := hkk
    exact ⟨w, _, _, run_cmp hop hx hy hc false (hq _ (List.mem_singleton.2 rfl)) w, .inl rfl, ha.put hk.1 _, hs, hz⟩
end

theorem evOp_known {q : Bool} {P : Program} {w0 : World} {γ : Nat → Nat} {n : Nat} {o : Oper} {h : Hint} {s : St} {r : OutE} (he : evOp q P w0 γ n o h s = some r) : ∀ c, o.op ≠ .defer c := by
  simp only [evOp] at he
  split at he <;> try cases he
  rename_i hk
  simp only [Bool.and_eq_true, knownO] at hk
  intro c e
  rw [e] at hk
  exact absurd hk.2.1 (by simp)

/-- Does an operation's guard let it run? -/
def wantL (all : List Oper) (l : Sl) (o : Oper) : Option Bool := match o.guard with
  | none => some true
  | some (j, b) => match all[j]? with
    | some oj => match oj.dst with
      | some d => match l.lookup d with
        | some (.bool x) => some (x == b)
        | some (.tuple _) => some false
        | _ => none
      | none => none
    | none => none
theorem wantL_spec {all : List Oper} {n : Nat} {D : List Deferred} {l : Sl} {a : Act} {o : Oper} {b : Bool} (h : SlR n D l a) (hw : wantL all l o = some b) : Region.wanted o (yielded all.toArray a.tmps) = b := by
  unfold wantL at hw
  unfold Region.wanted
  cases hg : o.guard with
  | none => simp [hg] at hw; simp [hw]
  | some jb =>
    obtain ⟨j, c⟩ := jb
    simp only [hg] at hw
    split at hw <;> try cases hw
    rename_i oj hj
    split at hw <;> try cases hw
    rename_i d hd
    split at hw <;> try cases hw
    · rename_i x hx
      have := h.got _ (lookup_mem hx)
      simp only at this
      simp [yielded, hj, hd, this]
    · rename_i x hx
      have := h.got _ (lookup_mem hx)
      simp only at this
      simp [yielded, hj, hd, this]

/-- A stretch of operations, the first of them number i. -/
def evOps (q : Bool) (P : Program) (w0 : World) (γ : Nat → Nat) (n : Nat) (all : List Oper) (hs : List (Nat × Hint)) : Nat → List Oper → St → Option OutE
  | _, [], s => some ⟨s, [], []⟩
  | i, o :: os, s => match wantL all s.l o with
    | none => none
    | some false => if okD n o.dst then evOps q P w0 γ n all hs (i + 1) os { s with l := putL o.dst undef s.l } else none
    | some true => match evOp q P w0 γ n o ((hs.lookup i).getD (.go [])) s with
      | none => none
      | some r => match evOps q P w0 γ n all hs (i + 1) os r.s with
        | none => none
        | some r' => some ⟨r'.s, r.rq ++ r'.rq, r.tr ++ r'.tr⟩

/-- What stands behind a piece of code. -/
inductive Fr where
  | seq (c : Code)
  | block (id : Nat)
  | loop (I : Act → World → Prop)

/-- No fence; in a round of loop rd, or in none. -/
def fen (rd : Option Nat) : Fence := { Fence.wide with round := rd }
theorem fen_calls {rd : Option Nat} {m : Nat} {P : Program} {f : FuncId} {args : Array Value} {w : World} {R : Ending → World → Prop} (h : Calls P f args w R) : CallsIn (fen rd) m P f args w R := (callsIn_wide (n := m)).2 h

def postF (rd : Option Nat) (P : Program) (R : Exit → Act → World → Prop) : List Fr → Exit → Act → World → Prop
  | [] => R
  | .seq c :: k => Exit.then (c.wpIn (fen rd) 0 P (postF rd P R k)) (postF rd P R k)
  | .block id :: k => Exit.inBlock id (postF rd P R k)
  | .loop I :: k => Exit.then I (postF rd P R k)

structure Env where
  P : Program
  rd : Option Nat
  D : List Deferred
  R : Exit → Act → World → Prop
  w0 : World
  n : Nat

structure At (E : Env) (k : List Fr) (c : Code) (l : Sl) (L : List Ob) : Prop where
  out : ∀ a w, SlR E.n E.D l a → Hs E.w0 L w → c.wpIn (fen E.rd) 0 E.P (postF E.rd E.P E.R k) a w
structure Ops (E : Env) (k : List Fr) (all : List Oper) (os : List Oper) (i : Nat) (l : Sl) (L : List Ob) : Prop where
  out : ∀ a w, SlR E.n E.D l a → Hs E.w0 L w → wpListIn (fen E.rd) 0 E.P all.toArray (postF E.rd E.P E.R k) os a w
structure Done (E : Env) (k : List Fr) (l : Sl) (L : List Ob) : Prop where
  out : ∀ a w, SlR E.n E.D l a → Hs E.w0 L w → postF E.rd E.P E.R k .normal a w
structure Left (E : Env) (k : List Fr) (id : Nat) (l : Sl) (L : List Ob) : Prop where
  out : ∀ a w, SlR E.n E.D l a → Hs E.w0 L w → postF E.rd E.P E.R k (.exit id) a w

section
variable {E : Env} {k : List Fr} {l : Sl} {L : List Ob}
theorem at_seq {a b : Code} (h : At E (.seq b :: k) a l L) : At E k (.seq a b) l L := ⟨fun _ _ ha hw => wpIn_seq (h.out _ _ ha hw)⟩
theorem at_block {id : Nat} {c : Code} (h : At E (.block id :: k) c l L) : At E k (.block id c) l L := ⟨fun _ _ ha hw => wpIn_block (h.out _ _ ha hw)⟩
theorem at_skip (h : Done E k l L) : At E k .skip l L := ⟨fun _ _ ha hw => wpIn_skip (h.out _ _ ha hw)⟩
theorem at_exit {id : Nat} (h : Left E k id l L) : At E k (.exit id) l L := ⟨fun _ _ ha hw => wpIn_exit (h.out _ _ ha hw)⟩
theorem done_seq {c : Code} (h : At E k c l L) : Done E (.seq c :: k) l L := ⟨fun _ _ ha hw => h.out _ _ ha hw⟩
theorem done_block {id : Nat} (h : Done E k l L) : Done E (.block id :: k) l L := ⟨fun _ _ ha hw => h.out _ _ ha hw⟩
theorem done_loop {I : Act → World → Prop} (h : ∀ a w, SlR E.n E.D l a → Hs E.w0 L w → I a w) : Done E (.loop I :: k) l L := ⟨fun _ _ ha hw => h _ _ ha hw⟩
theorem left_seq {c : Code} {id : Nat} (h : Left E k id l L) : Left E (.seq c :: k) id l L := ⟨fun _ _ ha hw => h.out _ _ ha hw⟩
theorem left_loop {I : Act → World → Prop} {id : Nat} (h : Left E k id l L) : Left E (.loop I :: k) id l L := ⟨fun _ _ ha hw => h.out _ _ ha hw⟩
theorem left_on {id id' : Nat} (hne : (id' == id) = false) (h : Left E k id' l L) : Left E (.block id :: k) id' l L := ⟨fun _ _ ha hw => by
  have hne' : id' ≠ id := by simpa using hne
  simpa [postF, Exit.inBlock, hne'] using h.out _ _ ha hw⟩
theorem left_here {id : Nat} (h : Done E k l L) : Left E (.block id :: k) id l L := ⟨fun _ _ ha hw => by simpa [postF, Exit.inBlock] using h.out _ _ ha hw⟩
/-- The exit's frames, all at once. -/
def popF (id : Nat) : List Fr → Option (List Fr)
  | [] => none
  | .seq _ :: k => popF id k
  | .loop _ :: k => popF id k
  | .block id' :: k => if id == id' then some k else popF id k
theorem left_pop {id : Nat} {k' : List Fr} (h : Done E k' l L) : ∀ {k : List Fr}, popF id k = some k' → Left E k id l L
  | [], e => by cases e
  | .seq c :: k, e => left_seq (left_pop h e)
  | .loop I :: k, e => left_loop (left_pop h e)
  | .block id' :: k, e => by
    simp only [popF] at e
    split at e
    · rename_i hid
      have : id = id' := by simpa using hid
      subst this
      obtain rfl := Option.some.inj e
      exact left_here h
    · rename_i hid
      exact left_on (by simpa using hid) (left_pop h e)
theorem at_leave {id : Nat} (k' : List Fr) (e : popF id k = some k') (h : Done E k' l L) : At E k (.exit id) l L := at_exit (left_pop h e)
theorem post_ret {rd : Option Nat} {P : Program} {R : Exit → Act → World → Prop} {a : Act} {w : World} (h : R .ret a w) : ∀ k, postF rd P R k .ret a w
  | [] => h
  | .seq _ :: k => post_ret h k
  | .block _ :: k => post_ret h k
  | .loop _ :: k => post_ret h k
theorem at_ret (h : ∀ a w, SlR E.n E.D l a → Hs E.w0 L w → E.R .ret a w) : At E k .ret l L := ⟨fun _ _ ha hw => wpIn_ret (post_ret (h _ _ ha hw) k)⟩
theorem at_true {c : Operand} {x y : Code} (hk : (knownX l c, look l c) = (true, .bool true)) (h : At E k x l L) : At E k (.cond c x y) l L :=
  ⟨fun _ _ ha hw => wpIn_cond_true (by obtain ⟨h1, h2⟩ := Prod.mk.inj hk; rw [look_eval ha h1, h2]) (h.out _ _ ha hw)⟩
theorem at_false {c : Operand} {x y : Code} (hk : (knownX l c, look l c) = (true, .bool false)) (h : At E k y l L) : At E k (.cond c x y) l L :=
  ⟨fun _ _ ha hw => wpIn_cond_false (by obtain ⟨h1, h2⟩ := Prod.mk.inj hk; rw [look_eval ha h1, h2]) (h.out _ _ ha hw)⟩
theorem at_ops {id : Nat} {all : List Oper} (h : Ops E k all all 0 l L) : At E k (.region id all.toArray false) l L := ⟨fun _ _ ha hw => wpIn_region_lit (h.out _ _ ha hw)⟩
theorem ops_nil {all : List Oper} {i : Nat} (h : Done E k l L) : Ops E k all [] i l L := ⟨fun _ _ ha hw => h.out _ _ ha hw⟩

theorem evOps_run {all : List Oper} {hs : List (Nat × Hint)} {γ : Nat → Nat} {B : Nat} {Q : Exit → Act → World → Prop} (rest : List Oper) (hγ : ∀ i, γ i = B + i) : ∀ (os : List Oper) (i : Nat) (s : St) (r : OutE) (a : Act) (w : World), evOps false E.P E.w0 γ E.n all hs i os s = some r →
    SlR E.n E.D s.l a → (∀ p ∈ r.tr, p.1 = p.2) → (∀ p ∈ r.rq, p) → Hs E.w0 s.L w → w.heap.size = B + s.k →
    (∀ a' w', SlR E.n E.D r.s.l a' → Hs E.w0 r.s.L w' → wpListIn (fen E.rd) 0 E.P all.toArray Q rest a' w') → wpListIn (fen E.rd) 0 E.P all.toArray Q (os ++ rest) a w
  | [], i, s, r, a, w, h, ha, _, _, hw, _, hK => by
    simp only [evOps, Option.some.injEq] at h; subst h
    exact hK a w ha hw
  | o :: os, i, s, r, a, w, h, ha, ht, hq, hw, hz, hK => by
    simp only [evOps] at h
    split at h <;> try cases h
    · rename_i hwant
      split at h <;> try cases h
      rename_i hd
      have hg := wantL_spec ha hwant
      rw [List.cons_append]
      unfold wpListIn
      rw [if_neg (by simp [hg])]
      refine ⟨fun _ _ => trivial, ?_⟩
      exact evOps_run rest hγ os _ _ r _ w h (ha.put hd undef) ht hq hw hz hK
    · rename_i hwant
      split at h <;> try cases h
      rename_i q hev
      split at h <;> try cases h
      rename_i q' hev'
      have hg := wantL_spec ha hwant
      obtain ⟨w', v, nx, e1, e2, e3, e4, e5⟩ := evOp_run (a := a) (w := w) hev ha (fun p hp => ht p (List.mem_append_left _ hp)) (fun p hp => hq p (List.mem_append_left _ hp)) hw hγ hz
      have go := evOps_run rest hγ os _ q.s q' (a.put o.dst v) w' hev' e3 (fun p hp => ht p (List.mem_append_right _ hp)) (fun p hp => hq p (List.mem_append_right _ hp)) e4 e5 hK
      rw [List.cons_append]
      refine wpListIn_step fun K hKK => ?_
      rw [if_pos hg]
      refine ⟨fun _ _ => trivial, ?_⟩
      rw [Oper.semAt_eq _ _ _ (evOp_known hev), e1]
      rcases e2 with rfl | ⟨rfl, rfl⟩
      · exact hKK _ _ go
      · exact hKK _ _ go

/-- What is kept of a reckoned stretch. -/
def seen (ts : List Nat) : Option OutE → Option (Sl × List Ob × List Prop)
  | some r => match keepL r.s.l ts with
    | some l => some (l, r.s.L, r.rq)
    | none => none
  | none => none
def trL : Option OutE → List Addr
  | some r => r.tr.map (·.1)
  | none => []
def trR : Option OutE → List Addr
  | some r => r.tr.map (·.2)
  | none => []
theorem tr_eq : ∀ {t : List (Addr × Addr)}, t.map (·.1) = t.map (·.2) → ∀ p ∈ t, p.1 = p.2
  | [], _, p, hp => by cases hp
  | x :: t, h, p, hp => by
    simp only [List.map_cons, List.cons.injEq] at h
    rcases List.mem_cons.1 hp with rfl | hp
    · exact h.1
    · exact tr_eq h.2 p hp

/-- A stretch of m operations, reckoned. -/
theorem ops_run {all os : List Oper} {i : Nat} (m : Nat) (hs : List (Nat × Hint)) (ts : List Nat) (l' : (Nat → Nat) → Sl) (L' : (Nat → Nat) → List Ob) (rq : (Nat → Nat) → List Prop)
    (h1 : ∀ γ, seen ts (evOps false E.P E.w0 γ E.n all hs i (os.take m) ⟨l, L, 0⟩) = some (l' γ, L' γ, rq γ))
    (h2 : ∀ γ, trL (evOps false E.P E.w0 γ E.n all hs i (os.take m) ⟨l, L, 0⟩) = trR (evOps false E.P E.w0 γ E.n all hs i (os.take m) ⟨l, L, 0⟩))
    (h3 : ∀ γ, AllP (rq γ)) (h4 : ∀ γ, Ops E k all (os.drop m) (i + m) (l' γ) (L' γ)) : Ops E k all os i l L := by
  refine ⟨fun a w ha hw => ?_⟩
  let γ : Nat → Nat := fun i => w.heap.size + i
  have e1 := h1 γ
  have e2 := h2 γ
  cases hev : evOps false E.P E.w0 γ E.n all hs i (os.take m) ⟨l, L, 0⟩ with
  | none => rw [hev] at e1; cases e1
  | some r =>
    rw [hev] at e1 e2
    simp only [seen] at e1
    split at e1 <;> try cases e1
    rename_i l1 hl1
    simp only [Option.some.injEq, Prod.mk.injEq] at e1
    obtain ⟨rfl, e3, e4⟩ := e1
    have := evOps_run (E := E) (Q := postF E.rd E.P E.R k) (os.drop m) (γ := γ) (B := w.heap.size) (fun _ => rfl) (os.take m) i _ r a w hev ha (tr_eq e2) (by rw [e4]; exact allP_mem (h3 γ)) hw (by simp)
      (fun a' w' ha' hw' => (h4 γ).out a' w' (ha'.sub (keepL_mem hl1)) (by rw [← e3]; exact hw'))
    rwa [List.take_append_drop] at this

/-- A whole region, reckoned. -/
theorem at_run {id : Nat} {all : List Oper} (hs : List (Nat × Hint)) (ts : List Nat) (l' : (Nat → Nat) → Sl) (L' : (Nat → Nat) → List Ob) (rq : (Nat → Nat) → List Prop)
    (h1 : ∀ γ, seen ts (evOps false E.P E.w0 γ E.n all hs 0 all ⟨l, L, 0⟩) = some (l' γ, L' γ, rq γ))
    (h2 : ∀ γ, trL (evOps false E.P E.w0 γ E.n all hs 0 all ⟨l, L, 0⟩) = trR (evOps false E.P E.w0 γ E.n all hs 0 all ⟨l, L, 0⟩))
    (h3 : ∀ γ, AllP (rq γ)) (h4 : ∀ γ, Done E k (l' γ) (L' γ)) : At E k (.region id all.toArray false) l L := by
  refine at_ops (ops_run all.length hs ts l' L' rq ?_ ?_ h3 fun γ => ?_)
  · rw [List.take_length]; exact h1
  · rw [List.take_length]; exact h2
  · rw [List.drop_length]; exact ops_nil (h4 γ)
end
end Go.Proofs.Ytfhlmijdokfdpaa
