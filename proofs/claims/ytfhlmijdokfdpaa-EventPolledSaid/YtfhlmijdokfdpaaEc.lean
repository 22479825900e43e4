/- The walker: a call's begin and end, calls, loops, append, regions that draw their order and leave memory alone. -/
import Derived.Test.YtfhlmijdokfdpaaEb
import Derived.Test.YtfhlmijdokfdpaaAp
namespace Go.Proofs.Ytfhlmijdokfdpaa
open Go Go.RowKit

theorem al0 : AllP [] := trivial
theorem al1 {p : Prop} (h : p) : AllP [p] := h
theorem al2 {p q : Prop} {l : List Prop} (h : p) (h2 : AllP (q :: l)) : AllP (p :: q :: l) := ⟨h, h2⟩

/-- Arguments in their slots. -/
def argL (args : Array Value) : Sl := args.toList.zipIdx.map fun x => (x.2, x.1)

section
variable {P : Program} {f : FuncId} {fn : Func} {c : Code} {args : Array Value} {w w0 : World} {R : Ending → World → Prop} {n : Nat} {L : List Ob}
theorem enter (hL : Hs w0 L w) (hf : P.funcs[f]? = some fn) (hb : fn.body = some c) (hn : fn.ntmps = n) (hs : Nat.ble args.size n = true) (h : At ⟨P, none, [], bodyPost P fn R, w0, n⟩ [] c (argL args) L) : Calls P f args w R := by
  refine calls_of_wp hf hb ?_
  have hs' : args.size ≤ n := Nat.le_of_ble_eq_true hs
  refine (wpIn_wide (n := 0)).1 (h.out _ _ ⟨fun p hp => ?_, by simp [hn]; omega, rfl⟩ hL)
  obtain ⟨x, hx, rfl⟩ := List.mem_map.1 hp
  have := List.mem_zipIdx_iff_getElem?.1 hx
  simp only at this ⊢
  have hlt : x.2 < args.size := by simpa using (List.getElem?_eq_some_iff.1 this).1
  rw [Array.getElem?_append_left hlt]
  simpa using this

def getR (l : Sl) (t : Tmp) : Value := (l.lookup t).getD undef
def resS (rs : List ResultVar) (l : Sl) : Sem Value := do
  let vs ← rs.mapM fun
    | .tmp t => pure (getR l t)
    | .cell a t => do loadVar t (← asAddr (getR l a))
  pure (if h : vs.toArray.size = 1 then vs.toArray[0] else .tuple vs.toArray)
def knownR (l : Sl) : ResultVar → Bool
  | .tmp t => (l.lookup t).isSome
  | .cell a _ => (l.lookup a).isSome
theorem list_mapM_congr {α β : Type} {f g : α → Sem β} : ∀ (l : List α), (∀ x ∈ l, f x = g x) → l.mapM f = l.mapM g
  | [], _ => rfl
  | a :: l, h => by rw [List.mapM_cons, List.mapM_cons, h a (List.mem_cons_self ..), list_mapM_congr l fun x hx => h x (List.mem_cons_of_mem _ hx)]
theorem results_res {l : Sl} {a : Act} (ha : SlR n [] l a) (hk : fn.results.toList.all (knownR l) = true) : results fn a.tmps = resS fn.results.toList l := by
  have key : ∀ t, (l.lookup t).isSome = true → a.tmps.getD t undef = getR l t := fun t ht => by
    obtain ⟨v, hv⟩ := Option.isSome_iff_exists.1 ht
    have := ha.got _ (lookup_mem hv)
    simp only at this
    simp [getR, hv, this]
  unfold results resS
  rw [Array.mapM_eq_mapM_toList]
  rw [list_mapM_congr (g := fun | .tmp t => pure (getR l t) | .cell a t => do loadVar t (← asAddr (getR l a))) fn.results.toList fun x hx => ?_]
  · simp
  · have := List.all_eq_true.1 hk x hx
    cases x with
    | tmp t => simp only; rw [key t this]
    | cell a t => simp only; rw [key a this]
def retV (P : Program) (w0 : World) (rs : List ResultVar) (l : Sl) (L : List Ob) (src : List Src) : Option (Res Value) := if rs.all (knownR l) then evS true P w0 (fun x => x) (resS rs l) ⟨L, src, 0⟩ else none
def rSeen : Option (Res Value) → Option (Value × List Prop)
  | some r => some (r.a, r.rq)
  | none => none
def rtL : Option (Res Value) → List Addr
  | some r => r.tr.map (·.1)
  | none => []
def rtR : Option (Res Value) → List Addr
  | some r => r.tr.map (·.2)
  | none => []
theorem ret_post {k : List Fr} {l : Sl} (src : List Src) (v : Value) (rq : List Prop) (h1 : rSeen (retV P w0 fn.results.toList l L src) = some (v, rq)) (h2 : rtL (retV P w0 fn.results.toList l L src) = rtR (retV P w0 fn.results.toList l L src)) (h3 : AllP rq)
    (h : ∀ w, Hs w0 L w → R (.returned v) w) (a : Act) (w : World) (ha : SlR n [] l a) (hw : Hs w0 L w) : bodyPost P fn R .ret a w := by
  cases hr : retV P w0 fn.results.toList l L src with
  | none => rw [hr] at h1; cases h1
  | some r =>
    rw [hr] at h1 h2
    simp only [rSeen, Option.some.injEq, Prod.mk.injEq] at h1
    obtain ⟨rfl, rfl⟩ := h1
    unfold retV at hr
    split at hr <;> try cases hr
    rename_i hk
    have := (evS_quiet _ _ r hr (tr_eq h2) (allP_mem h3)).2 w hw
    exact bodyPost_ret (by rw [results_res ha hk]; exact this) ha.defers (h w hw)
theorem at_return {k : List Fr} {l : Sl} (src : List Src) (v : Value) (rq : List Prop) (h1 : rSeen (retV P w0 fn.results.toList l L src) = some (v, rq)) (h2 : rtL (retV P w0 fn.results.toList l L src) = rtR (retV P w0 fn.results.toList l L src)) (h3 : AllP rq)
    (h : ∀ w, Hs w0 L w → R (.returned v) w) : At ⟨P, none, [], bodyPost P fn R, w0, n⟩ k .ret l L :=
  at_ret fun a w ha hw => ret_post (k := k) src v rq h1 h2 h3 h a w ha hw
/-- A body that ends without a return. -/
theorem done_return {l : Sl} (hr : fn.results = #[]) (h : ∀ w, Hs w0 L w → R (.returned (.tuple #[])) w) : Done ⟨P, none, [], bodyPost P fn R, w0, n⟩ [] l L :=
  ⟨fun _ w ha hw => bodyPost_end (results_none hr _ _ _) ha.defers (h w hw)⟩
end

/-- Which function a call enters, with what. -/
def calleeL (l : Sl) (o : Oper) : Option (FuncId × Array Value) :=
  if knownO l o then match o.op with
    | .call c => match c.callee with
      | .value x => match look l x with
        | .func (.func g) first cap => some (g, first ++ c.args.map (look l) ++ cap)
        | _ => none
      | _ => none
    | _ => none
  else none

theorem wpCalm_mono {P : Program} {ops : Array Oper} {C : (Nat → Bool) → World → Prop} {Q Q' : Act → Prop} (hq : ∀ a, Q a → Q' a) : ∀ (l : List Oper) (i : Nat) (a : Act), wpCalm P ops C Q l i a → wpCalm P ops C Q' l i a
  | [], _, _, h => hq _ h
  | o :: l, i, a, h => by
    unfold wpCalm at *
    split
    · rename_i hw; rw [if_pos hw] at h; obtain ⟨v, h1, h2⟩ := h; exact ⟨v, h1, wpCalm_mono hq l _ _ h2⟩
    · rename_i hw; rw [if_neg hw] at h; exact ⟨h.1, wpCalm_mono hq l _ _ h.2⟩

section
variable {E : Env} {k : List Fr} {l : Sl} {L : List Ob} {all os : List Oper} {o : Oper} {i : Nat} {f : FuncId} {args : Array Value}
theorem run_callee {a : Act} (ha : SlR E.n E.D l a) (hc : calleeL l o = some (f, args)) (he : ∀ args w, (callFunc f args).run E.P w = .ok (.enter f args) w) (w : World) : (execOp a.eval o).run E.P w = .ok (.enter f args) w := by
  unfold calleeL at hc
  split at hc <;> try cases hc
  rename_i hk
  rw [look_exec ha hk]
  split at hc <;> try cases hc
  rename_i c hop
  split at hc <;> try cases hc
  rename_i x hx
  split at hc <;> try cases hc
  rename_i g first cap hv
  have := he ((first ++ c.args.map (look l)) ++ cap) w
  simp only [execOp, hop, resolve, hx, hv, Deferred.ofValue, Sem.run_bind, Sem.run_pure, Result.andThen_ok, invoke]
  simpa using this

theorem callee_known {l : Sl} {o : Oper} {f : FuncId} {args : Array Value} (hc : calleeL l o = some (f, args)) : ∀ c, o.op ≠ .defer c := by
  intro c e
  unfold calleeL at hc
  rw [e] at hc
  split at hc <;> cases hc

/-- A call. -/
theorem ops_call (Post : Value → List Ob → Prop) (hw : wantL all l o = some true) (hd : okD E.n o.dst = true) (hc : calleeL l o = some (f, args)) (he : ∀ args w, (callFunc f args).run E.P w = .ok (.enter f args) w)
    (hC : ∀ w, Hs E.w0 L w → Calls E.P f args w fun e w' => ∃ v L', e = .returned v ∧ Post v L' ∧ Hs E.w0 L' w') (h : ∀ v L', Post v L' → Ops E k all os (i + 1) (putL o.dst v l) L') : Ops E k all (o :: os) i l L := by
  refine ⟨fun a w ha hs => ?_⟩
  have hg := wantL_spec ha hw
  refine wpListIn_step fun K hK => ?_
  rw [if_pos hg]
  refine ⟨fun _ _ => trivial, ?_⟩
  rw [Oper.semAt_eq _ _ _ (callee_known hc), run_callee ha hc he w]
  refine ⟨fun h => (by cases h), fen_calls ?_⟩
  refine (hC w hs).mono fun e w' ⟨v, L', he, hP, hs'⟩ => ?_
  subst he
  exact hK _ _ ((h v L' hP).out _ _ (ha.put hd v) hs')

/-- A call whose answer is one value, and that leaves all memory. -/
theorem ops_callD (v : Value) (hw : wantL all l o = some true) (hd : okD E.n o.dst = true) (hc : calleeL l o = some (f, args)) (he : ∀ args w, (callFunc f args).run E.P w = .ok (.enter f args) w)
    (hC : ∀ w, Hs E.w0 L w → Calls E.P f args w fun e w' => e = .returned v ∧ Below w.heap.size w w') (h : Ops E k all os (i + 1) (putL o.dst v l) L) : Ops E k all (o :: os) i l L := by
  refine ops_call (fun u L' => u = v ∧ L' = L) hw hd hc he (fun w hs => (hC w hs).mono fun e w' ⟨he, hb⟩ => ⟨v, L, he, ⟨rfl, rfl⟩, hs.kept hb⟩) ?_
  rintro u L' ⟨rfl, rfl⟩
  exact h

/-- A loop whose measure stands in no slot. -/
theorem wp_loopM {F : Fence} {n0 : Nat} {P : Program} {Q : Exit → Act → World → Prop} {c : Code} (J : Nat → Act → World → Prop) (round : ∀ m a w, J m a w → c.wpIn F n0 P (Exit.then (fun a' w' => ∃ m', m' < m ∧ J m' a' w') Q) a w) (m : Nat) (a : Act) (w : World) (h0 : J m a w) : (Code.loop c).wpIn F n0 P Q a w := by
  intro b k cs hro hb hr
  have key : ∀ n a w, J n a w → ∃ e a' w', Q e a' w' ∧ ArrivesIn (Machine.fenced P F) P (lone (b.atR a (.code c :: .inLoop c :: k)) cs w) b k cs e a' w' := by
    intro n
    induction n using Nat.strongRecOn with
    | _ n ih =>
      intro a w hI
      obtain ⟨e, a₁, w₁, hq, harr⟩ := round n a w hI b (.inLoop c :: k) cs hro hb hr
      cases e with
      | normal =>
        obtain ⟨m', hlt, hI₁⟩ := hq
        obtain ⟨e₂, a₂, w₂, hq₂, harr₂⟩ := ih m' hlt a₁ w₁ hI₁
        exact ⟨e₂, a₂, w₂, hq₂, .of_steps (StepsIn.trans harr (.one (fenced_calm hb hr rfl) stepR_inLoop)) harr₂⟩
      | exit id => exact ⟨_, a₁, w₁, hq, .pass (x := .inLoop c) rfl (fun _ _ => .inl (by simp)) harr⟩
      | goto l => exact ⟨_, a₁, w₁, hq, .pass (x := .inLoop c) rfl (fun _ _ => .inl (by simp)) harr⟩
      | ret => exact ⟨_, a₁, w₁, hq, .pass (x := .inLoop c) rfl (fun _ _ => .inl (by simp)) harr⟩
      | panic ch => exact ⟨_, a₁, w₁, hq, .pass (x := .inLoop c) rfl (fun _ _ => .inl (by simp)) harr⟩
      | outgrown => exact ⟨_, a₁, w₁, hq, .pass (x := .inLoop c) rfl (fun _ _ => .inl (by simp)) harr⟩
  obtain ⟨e, a', w', hq, harr⟩ := key _ a w h0
  exact ⟨e, a', w', hq, .of_steps (.one (fenced_calm hb hr rfl) stepR_loop) harr⟩

/-- What a round of a loop leaves. -/
def Again (E : Env) {α : Type} (S : α → Sl) (M : α → List Ob) (I : α → Prop) (μ : α → Nat) (x : α) : Act → World → Prop := fun a w => ∃ m, m < μ x ∧ ∃ y, μ y = m ∧ I y ∧ SlR E.n E.D (S y) a ∧ Hs E.w0 (M y) w
/-- A loop. -/
theorem at_loop {α : Type} {c : Code} (ts : List Nat) (S : α → Sl) (M : α → List Ob) (I : α → Prop) (μ : α → Nat) (x0 : α) (hl : keepL l ts = some (S x0)) (hL : L = M x0) (h0 : I x0)
    (h : ∀ x, I x → At E (.loop (Again E S M I μ x) :: k) c (S x) (M x)) : At E k (.loop c) l L := by
  refine ⟨fun a w ha hs => ?_⟩
  subst hL
  refine wp_loopM (fun m a w => ∃ x, μ x = m ∧ I x ∧ SlR E.n E.D (S x) a ∧ Hs E.w0 (M x) w) (fun m a w ⟨x, hm, hI, ha, hs⟩ => ?_) (μ x0) a w ⟨x0, rfl, h0, ha.sub (keepL_mem hl), hs⟩
  subst hm
  exact (h x hI).out a w ha hs
theorem done_round {α : Type} {S : α → Sl} {M : α → List Ob} {I : α → Prop} {μ : α → Nat} {x : α} (ts : List Nat) (y : α) (hl : keepL l ts = some (S y)) (hL : L = M y) (hI : I y) (hμ : μ y < μ x) : Done E (.loop (Again E S M I μ x) :: k) l L :=
  done_loop fun a w ha hs => by subst hL; exact ⟨μ y, hμ, y, rfl, hI, ha.sub (keepL_mem hl), hs⟩

/-- The rows are named otherwise. -/
theorem At.perm {c : Code} {L' : List Ob} (h : At E k c l L') (p : L.Perm L') : At E k c l L := ⟨fun a w ha hs => h.out a w ha (hs.perm p)⟩
theorem Ops.perm {L' : List Ob} (h : Ops E k all os i l L') (p : L.Perm L') : Ops E k all os i l L := ⟨fun a w ha hs => h.out a w ha (hs.perm p)⟩
theorem Done.perm {L' : List Ob} (h : Done E k l L') (p : L.Perm L') : Done E k l L := ⟨fun a w ha hs => h.out a w ha (hs.perm p)⟩
theorem At.drop {c : Code} {L' : List Ob} (h : At E k c l L') (p : L'.Sublist L) : At E k c l L := ⟨fun a w ha hs => h.out a w ha (hs.sub p)⟩
theorem Done.drop {L' : List Ob} (h : Done E k l L') (p : L'.Sublist L) : Done E k l L := ⟨fun a w ha hs => h.out a w ha (hs.sub p)⟩

/-! ### regions that draw their order and leave memory alone -/
structure Calm (E : Env) (k : List Fr) (all : List Oper) (os : List Oper) (i : Nat) (l : Sl) (L : List Ob) : Prop where
  out : ∀ a, SlR E.n E.D l a → wpCalm E.P all.toArray (fun _ w => Hs E.w0 L w) (fun a' => ∀ w', Hs E.w0 L w' → postF E.rd E.P E.R k .normal a' w') os i a
theorem at_calm {id : Nat} (hrd : E.rd = none) (hm : E.P.follows .mixedOrders = true) (hB : Region.lexB .any all.toArray = true) (h : Calm E k all all 0 l L) : At E k (.region id all.toArray true) l L :=
  ⟨fun a w ha hs => by
  rw [hrd]
  exact (wpIn_wide (n := 0)).2 (wp_region_calm (fun _ w => Hs E.w0 L w) hm hB hs.drew (by
    have := h.out a ha
    exact wpCalm_mono (fun a' h w' _ hw' _ => by rw [← hrd]; exact h w' hw') _ _ _ this))⟩
theorem calm_nil' (h : Done E k l L) : Calm E k all [] i l L := ⟨fun a ha => fun w' hw' => h.out a w' ha hw'⟩

theorem evOp_quiet {P : Program} {w0 : World} {γ : Nat → Nat} {n : Nat} {D : List Deferred} {a : Act} {h : Hint} {s : St} {r : OutE} (he : evOp true P w0 γ n o h s = some r) (ha : SlR n D s.l a) (ht : ∀ p ∈ r.tr, p.1 = p.2) (hq : ∀ p ∈ r.rq, p) :
    r.s.L = s.L ∧ ∃ v nx, (nx = .value v ∨ nx = .skip ∧ v = undef) ∧ SlR n D r.s.l (a.put o.dst v) ∧ ∀ w, Hs w0 s.L w → (execOp a.eval o).run P w = .ok nx w := by
  simp only [evOp] at he
  split at he <;> try cases he
  rename_i hk
  simp only [Bool.and_eq_true] at hk
  rw [look_exec ha hk.2]
  split at he
  · rename_i src
    split at he <;> try cases he
    rename_i q hq1
    split at he <;> try cases he
    · rename_i v hv
      obtain ⟨e1, e2⟩ := evS_quiet _ _ q hq1 ht hq
      exact ⟨e1, v, _, .inl rfl, ha.put hk.1 v, fun w hw => by rw [e2 w hw, hv]⟩
    · rename_i hv
      obtain ⟨e1, e2⟩ := evS_quiet _ _ q hq1 ht hq
      exact ⟨e1, undef, _, .inr ⟨rfl, rfl⟩, ha.put hk.1 undef, fun w hw => by rw [e2 w hw, hv]⟩
  · rename_i src v
    split at he <;> try cases he
    rename_i q hq1
    split at he <;> try cases he
    rename_i u hv
    obtain ⟨e1, e2⟩ := evS_quiet _ _ q hq1 ht (fun p hp => hq p (List.mem_cons_of_mem _ hp))
    have huv : u = v := hq _ (List.mem_cons_self ..)
    exact ⟨e1, v, .value v, .inl rfl, ha.put hk.1 v, fun w hw => by rw [e2 w hw, hv, huv]⟩
  · rename_i b
    split at he <;> try cases he
    rename_i op T x y U hop
    exact ⟨rfl, _, _, .inl rfl, ha.put hk.1 _, fun w _ => run_eqs hop (hq _ (List.mem_singleton.2 rfl)) w⟩
  · rename_i v
    split at he <;> try cases he
    rename_i T x lo hi mx hop
    exact ⟨rfl, _, _, .inl rfl, ha.put hk.1 _, fun w _ => run_sl hop (hq _ (List.mem_singleton.2 rfl)) w⟩
  · split at he <;> try cases he
    · rename_i S T x hop
      split at he <;> try cases he
      rename_i k k' c hT hx
      split at he <;> try cases he
      rename_i hS
      exact ⟨rfl, _, _, .inl rfl, ha.put hk.1 _, fun w _ => run_conv hop (Option.isSome_iff_exists.1 hS) hT hx (hq _ (List.mem_singleton.2 rfl)) w⟩
    rename_i op T x y U hop
    split at he <;> try cases he
    rename_i k p k' q hx hy
    split at he <;> try cases he
    rename_i hkk
    split at he <;> try cases he
    rename_i c hc
    subst hkk
    exact ⟨rfl, _, _, .inl rfl, ha.put hk.1 _, fun w _ => run_arith hop hx hy hc (hq _ (List.mem_singleton.2 rfl)) w⟩
  · rename_i b of m
    split at he <;> try cases he
    rename_i T x y hop
    split at he <;> try cases he
    rename_i e p len cap k i hu hx hy
    split at he <;> try cases he
    rename_i inf hi
    exact ⟨rfl, _, _, .inl rfl, ha.put hk.1 _, fun w _ => run_at hop hx hy hu hi (hq _ (by simp)) (hq _ (by simp)) (hq _ (by simp)) w⟩
  · split at he <;> try cases he
    rename_i op T x y U hop
    split at he <;> try cases he
    rename_i k p k' q hx hy
    split at he <;> try cases he
    rename_i hkk
    obtain ⟨rfl, hc⟩ := hkk
    exact ⟨rfl, _, _, .inl rfl, ha.put hk.1 _, fun w _ => run_cmp hop hx hy hc true (hq _ (List.mem_singleton.2 rfl)) w⟩
  · split at he <;> try cases he
    rename_i op T x y U hop
    split at he <;> try cases he
    rename_i k p k' q hx hy
    split at he <;> try cases he
    rename_i hkk
    obtain ⟨rfl, hc⟩ := hkk
    exact ⟨rfl, _, _, .inl rfl, ha.put hk.1 _, fun w _ => run_cmp hop hx hy hc false (hq _ (List.mem_singleton.2 rfl)) w⟩

theorem evOps_quiet {hs : List (Nat × Hint)} {γ : Nat → Nat} {Q : Act → Prop} (rest : List Oper) : ∀ (os : List Oper) (i : Nat) (s : St) (r : OutE) (a : Act), evOps true E.P E.w0 γ E.n all hs i os s = some r →
    SlR E.n E.D s.l a → (∀ p ∈ r.tr, p.1 = p.2) → (∀ p ∈ r.rq, p) → s.L = L →
    (∀ a', SlR E.n E.D r.s.l a' → wpCalm E.P all.toArray (fun _ w => Hs E.w0 L w) Q rest (i + os.length) a') → wpCalm E.P all.toArray (fun _ w => Hs E.w0 L w) Q (os ++ rest) i a
  | [], i, s, r, a, h, ha, _, _, _, hK => by
    simp only [evOps, Option.some.injEq] at h; subst h
    exact hK a ha
  | o :: os, i, s, r, a, h, ha, ht, hq, hL, hK => by
    simp only [evOps] at h
    split at h <;> try cases h
    · rename_i hwant
      split at h <;> try cases h
      rename_i hd
      have hg := wantL_spec ha hwant
      rw [List.cons_append]
      unfold wpCalm
      rw [if_neg (by simp [hg])]
      exact ⟨fun _ _ h _ => h, evOps_quiet rest os _ _ r _ h (ha.put hd undef) ht hq hL (fun a' h' => by have := hK a' h'; rwa [List.length_cons, Nat.add_comm os.length, ← Nat.add_assoc] at this)⟩
    · rename_i hwant
      split at h <;> try cases h
      rename_i q hev
      split at h <;> try cases h
      rename_i q' hev'
      have hg := wantL_spec ha hwant
      obtain ⟨e1, v, nx, e2, e3, e4⟩ := evOp_quiet (a := a) hev ha (fun p hp => ht p (List.mem_append_left _ hp)) (fun p hp => hq p (List.mem_append_left _ hp))
      have go := evOps_quiet rest os _ q.s q' (a.put o.dst v) hev' e3 (fun p hp => ht p (List.mem_append_right _ hp)) (fun p hp => hq p (List.mem_append_right _ hp)) (e1.trans hL) (fun a' h' => by have := hK a' h'; rwa [List.length_cons, Nat.add_comm os.length, ← Nat.add_assoc] at this)
      rw [List.cons_append]
      unfold wpCalm
      rw [if_pos hg]
      refine ⟨v, fun d w hw _ => ?_, go⟩
      unfold calmAt
      rw [e4 w (by rw [hL]; exact hw)]
      rcases e2 with rfl | ⟨rfl, rfl⟩
      · exact ⟨rfl, hw⟩
      · exact ⟨rfl, hw⟩

def seenQ (ts : List Nat) : Option OutE → Option (Sl × List Prop)
  | some r => match keepL r.s.l ts with
    | some l => some (l, r.rq)
    | none => none
  | none => none
theorem calm_run {os : List Oper} {i : Nat} (m : Nat) (hs : List (Nat × Hint)) (ts : List Nat) (l' : Sl) (rq : List Prop)
    (h1 : seenQ ts (evOps true E.P E.w0 (fun x => x) E.n all hs i (os.take m) ⟨l, L, 0⟩) = some (l', rq))
    (h2 : trL (evOps true E.P E.w0 (fun x => x) E.n all hs i (os.take m) ⟨l, L, 0⟩) = trR (evOps true E.P E.w0 (fun x => x) E.n all hs i (os.take m) ⟨l, L, 0⟩))
    (hm : (os.take m).length = m) (h3 : AllP rq) (h4 : Calm E k all (os.drop m) (i + m) l' L) : Calm E k all os i l L := by
  refine ⟨fun a ha => ?_⟩
  cases hev : evOps true E.P E.w0 (fun x => x) E.n all hs i (os.take m) ⟨l, L, 0⟩ with
  | none => rw [hev] at h1; cases h1
  | some r =>
    rw [hev] at h1 h2
    simp only [seenQ] at h1
    split at h1 <;> try cases h1
    rename_i l1 hl1
    have := evOps_quiet (E := E) (L := L) (os.drop m) (os.take m) i _ r a hev ha (tr_eq h2) (allP_mem h3) rfl
      (fun a' ha' => by rw [hm]; exact h4.out a' (ha'.sub (keepL_mem hl1)))
    rwa [List.take_append_drop] at this
/-- A call within: its answer is one value, and it leaves all memory. -/
theorem calm_callD (v : Value) (hw : wantL all l o = some true) (hd : okD E.n o.dst = true) (hc : calleeL l o = some (f, args)) (he : ∀ args w, (callFunc f args).run E.P w = .ok (.enter f args) w)
    (hC : ∀ w, Hs E.w0 L w → Calls E.P f args w fun e w' => e = .returned v ∧ Below w.heap.size w w') (h : Calm E k all os (i + 1) (putL o.dst v l) L) : Calm E k all (o :: os) i l L := by
  refine ⟨fun a ha => ?_⟩
  have hg := wantL_spec ha hw
  exact calm_callG hg v f args (run_callee ha hc he) (fun d w hw _ => (hC w hw).mono fun e w' ⟨he, hb⟩ => ⟨he, hw.kept hb⟩) (h.out _ (ha.put hd v))
/-- A whole region, reckoned. -/
theorem calm_all {id : Nat} (hs : List (Nat × Hint)) (ts : List Nat) (l' : Sl) (rq : List Prop) (hrd : E.rd = none) (hm : E.P.follows .mixedOrders = true) (hB : Region.lexB .any all.toArray = true)
    (h1 : seenQ ts (evOps true E.P E.w0 (fun x => x) E.n all hs 0 all ⟨l, L, 0⟩) = some (l', rq))
    (h2 : trL (evOps true E.P E.w0 (fun x => x) E.n all hs 0 all ⟨l, L, 0⟩) = trR (evOps true E.P E.w0 (fun x => x) E.n all hs 0 all ⟨l, L, 0⟩))
    (h3 : AllP rq) (h4 : Done E k l' L) : At E k (.region id all.toArray true) l L := by
  refine at_calm hrd hm hB (calm_run all.length hs ts l' rq ?_ ?_ ?_ h3 ?_)
  · rw [List.take_length]; exact h1
  · rw [List.take_length]; exact h2
  · rw [List.take_length]
  · rw [List.drop_length]; exact calm_nil' h4
end
/-! ### the same, told by what has turned -/
section
variable {E : Env} {k : List Fr} {l : Sl} {L : List Ob} {all os : List Oper} {i : Nat}
def restL (l : Sl) : List Nat → Sl
  | [] => []
  | t :: ts => match l.lookup t with
    | some v => (t, v) :: restL l ts
    | none => restL l ts
def ev2 (ts : List Nat) (x : Option OutE) : Option (Sl × List Ob × List Prop) × List Addr := (seen ts x, trL x)
/-- A stretch of m operations: ch: the slots that turn; ts: those that stay and are wanted; F: the blocks. -/
theorem om (m : Nat) (hs : List (Nat × Hint)) (ts : List Nat) (ch : (Nat → Nat) → Sl) (F : (Nat → Nat) → List Ob → List Ob) (rq : (Nat → Nat) → List Prop)
    (h : ∀ γ, ev2 ((ch γ).map (·.1) ++ ts) (evOps false E.P E.w0 γ E.n all hs i (os.take m) ⟨l, L, 0⟩) = (some (ch γ ++ restL l ts, F γ L, rq γ), trR (evOps false E.P E.w0 γ E.n all hs i (os.take m) ⟨l, L, 0⟩)))
    (h3 : ∀ γ, AllP (rq γ)) (h4 : ∀ γ, Ops E k all (os.drop m) (i + m) (ch γ ++ restL l ts) (F γ L)) : Ops E k all os i l L := by
  refine ⟨fun a w ha hw => ?_⟩
  let γ : Nat → Nat := fun i => w.heap.size + i
  obtain ⟨e1, e2⟩ := Prod.mk.inj (h γ)
  cases hev : evOps false E.P E.w0 γ E.n all hs i (os.take m) ⟨l, L, 0⟩ with
  | none => rw [hev] at e1; cases e1
  | some r =>
    rw [hev] at e1 e2
    simp only [seen] at e1
    split at e1 <;> try cases e1
    rename_i l1 hl1
    simp only [Option.some.injEq, Prod.mk.injEq] at e1
    obtain ⟨rfl, e3, e4⟩ := e1
    have := evOps_run (E := E) (Q := postF E.rd E.P E.R k) (os.drop m) (γ := γ) (B := w.heap.size) (fun _ => rfl) (os.take m) i _ r a w hev ha (tr_eq e2) (by rw [e4]; exact allP_mem (h3 γ)) hw (by simp)
      (fun a' w' ha' hw' => (h4 γ).out a' w' (ha'.sub (keepL_mem hl1)) (by rw [← e3]; exact hw'))
    rwa [List.take_append_drop] at this
theorem oq (m : Nat) (hs : List (Nat × Hint)) (ts : List Nat) (ch : Sl) (rq : List Prop)
    (h : ∀ γ, ev2 (ch.map (·.1) ++ ts) (evOps false E.P E.w0 γ E.n all hs i (os.take m) ⟨l, L, 0⟩) = (some (ch ++ restL l ts, L, rq), trR (evOps false E.P E.w0 γ E.n all hs i (os.take m) ⟨l, L, 0⟩)))
    (h3 : AllP rq) (h4 : Ops E k all (os.drop m) (i + m) (ch ++ restL l ts) L) : Ops E k all os i l L :=
  om m hs ts (fun _ => ch) (fun _ L => L) (fun _ => rq) h (fun _ => h3) (fun _ => h4)
theorem am {id : Nat} (hs : List (Nat × Hint)) (ts : List Nat) (ch : (Nat → Nat) → Sl) (F : (Nat → Nat) → List Ob → List Ob) (rq : (Nat → Nat) → List Prop)
    (h : ∀ γ, ev2 ((ch γ).map (·.1) ++ ts) (evOps false E.P E.w0 γ E.n all hs 0 all ⟨l, L, 0⟩) = (some (ch γ ++ restL l ts, F γ L, rq γ), trR (evOps false E.P E.w0 γ E.n all hs 0 all ⟨l, L, 0⟩)))
    (h3 : ∀ γ, AllP (rq γ)) (h4 : ∀ γ, Done E k (ch γ ++ restL l ts) (F γ L)) : At E k (.region id all.toArray false) l L := by
  refine at_ops (om all.length hs ts ch F rq ?_ h3 fun γ => ?_)
  · rw [List.take_length]; exact h
  · rw [List.drop_length]; exact ops_nil (h4 γ)
theorem aq {id : Nat} (hs : List (Nat × Hint)) (ts : List Nat) (ch : Sl) (rq : List Prop)
    (h : ∀ γ, ev2 (ch.map (·.1) ++ ts) (evOps false E.P E.w0 γ E.n all hs 0 all ⟨l, L, 0⟩) = (some (ch ++ restL l ts, L, rq), trR (evOps false E.P E.w0 γ E.n all hs 0 all ⟨l, L, 0⟩)))
    (h3 : AllP rq) (h4 : Done E k (ch ++ restL l ts) L) : At E k (.region id all.toArray false) l L :=
  am hs ts (fun _ => ch) (fun _ L => L) (fun _ => rq) h (fun _ => h3) (fun _ => h4)
def ev2Q (ts : List Nat) (x : Option OutE) : Option (Sl × List Prop) × List Addr := (seenQ ts x, trL x)
theorem cm {os : List Oper} {i : Nat} (m : Nat) (hs : List (Nat × Hint)) (ts : List Nat) (ch : Sl) (rq : List Prop)
    (h : ev2Q (ch.map (·.1) ++ ts) (evOps true E.P E.w0 (fun x => x) E.n all hs i (os.take m) ⟨l, L, 0⟩) = (some (ch ++ restL l ts, rq), trR (evOps true E.P E.w0 (fun x => x) E.n all hs i (os.take m) ⟨l, L, 0⟩)))
    (hm : (os.take m).length = m) (h3 : AllP rq) (h4 : Calm E k all (os.drop m) (i + m) (ch ++ restL l ts) L) : Calm E k all os i l L :=
  calm_run m hs (ch.map (·.1) ++ ts) _ rq (Prod.mk.inj h).1 (Prod.mk.inj h).2 hm h3 h4
theorem cq {id : Nat} (hs : List (Nat × Hint)) (ts : List Nat) (ch : Sl) (rq : List Prop) (hrd : E.rd = none) (hm : E.P.follows .mixedOrders = true) (hB : Region.lexB .any all.toArray = true)
    (h : ev2Q (ch.map (·.1) ++ ts) (evOps true E.P E.w0 (fun x => x) E.n all hs 0 all ⟨l, L, 0⟩) = (some (ch ++ restL l ts, rq), trR (evOps true E.P E.w0 (fun x => x) E.n all hs 0 all ⟨l, L, 0⟩)))
    (h3 : AllP rq) (h4 : Done E k (ch ++ restL l ts) L) : At E k (.region id all.toArray true) l L :=
  calm_all hs (ch.map (·.1) ++ ts) _ rq hrd hm hB (Prod.mk.inj h).1 (Prod.mk.inj h).2 h3 h4
end
end Go.Proofs.Ytfhlmijdokfdpaa
