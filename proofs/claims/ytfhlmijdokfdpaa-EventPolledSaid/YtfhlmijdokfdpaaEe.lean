/- The walker: regions that draw their order and act. What only reckons is taken first; what acts comes alone, or each that may come up is tried. -/
import Derived.Test.YtfhlmijdokfdpaaEd
import Derived.OrdersIn
namespace Go.Proofs.Ytfhlmijdokfdpaa
open Go Go.RowKit

/-- A step that asks no world. -/
def evP (P : Program) {α : Type} : Sem α → Option α
  | .pure a => some a
  | .program k => evP P (k P)
  | .mark _ k => evP P k
  | .choose q k => if q.forced then evP P (k 0) else none
  | _ => none
theorem evP_run {P : Program} {α : Type} : ∀ (s : Sem α) (r : α), evP P s = some r → ∀ w, s.run P w = .ok r w := by
  intro s
  induction s with
  | pure a => intro r h w; simp only [evP, Option.some.injEq] at h; subst h; rfl
  | program k ih => intro r h w; exact ih P r h w
  | mark m k ih => intro r h w; exact ih r h w
  | choose q k ih =>
    intro r h w
    simp only [evP] at h
    split at h <;> try cases h
    rename_i hf
    simp only [Sem.run, hf, if_true]
    exact ih 0 r h w
  | _ => intro r h; simp [evP] at h

/-- No call of a function. -/
def calm1 (o : Oper) : Bool := match o.op with
  | .call c => match c.callee with
    | .builtin _ => true
    | _ => false
  | _ => true
theorem about_calm {P : Program} {w : World} {ρ : Operand → Value} {o : Oper} (h : calm1 o = true) : o.about P w ρ = none := by
  unfold calm1 at h
  unfold Oper.about
  split at h
  · rename_i c hop
    split at h <;> try cases h
    rename_i b hc
    rw [hop]
    simp [resolve, hc, Target.leads]
  · rename_i hop
    cases ho : o.op <;> simp only [ho] at hop ⊢
    exact absurd rfl (hop _)

/-- One operation that asks no world. -/
def evT (P : Program) (n : Nat) (o : Oper) (h : Hint) (l : Sl) : Option (Sl × List Prop) :=
  if calm1 o then match h with
    | .go [] => if okD n o.dst && knownO l o then match evP P (execOp (look l) o) with
      | some (.value v) => some (putL o.dst v l, [])
      | _ => none else none
    | .go _ => none
    | .is _ _ => none
    | h => match evOp true P default (fun x => x) n o h ⟨l, [], 0⟩ with
      | some r => some (r.s.l, r.rq)
      | none => none
  else none

section
variable {P : Program} {n : Nat} {D : List Deferred} {o : Oper} {l : Sl} {a : Act}
theorem evT_run {h : Hint} {r : Sl × List Prop} (he : evT P n o h l = some r) (ha : SlR n D l a) (hq : ∀ p ∈ r.2, p) : ∃ v, (∀ w, (execOp a.eval o).run P w = .ok (.value v) w) ∧ SlR n D r.1 (a.put o.dst v) ∧ calm1 o = true := by
  simp only [evT] at he
  split at he <;> try cases he
  rename_i hc
  split at he
  · split at he <;> try cases he
    rename_i hk
    simp only [Bool.and_eq_true] at hk
    split at he <;> try cases he
    rename_i v hv
    exact ⟨v, fun w => by rw [look_exec ha hk.2]; exact evP_run _ _ hv w, ha.put hk.1 v, hc⟩
  · cases he
  · cases he
  · rename_i hn1 hn2 hn3
    split at he <;> try cases he
    rename_i q hev
    -- the hints that reckon: each by its own law, in whatever world
    simp only [evOp] at hev
    split at hev <;> try cases hev
    rename_i hk
    simp only [Bool.and_eq_true] at hk
    split at hev
    · rename_i src
      cases src with
      | nil => exact absurd rfl (hn1 ·)
      | cons s t => exact absurd rfl (hn2 _ ·)
    · rename_i src v
      exact absurd rfl (hn3 _ _ ·)
    · rename_i b
      split at hev <;> try cases hev
      rename_i op T x y U hop
      exact ⟨_, fun w => by rw [look_exec ha hk.2]; exact run_eqs hop (hq _ (List.mem_singleton.2 rfl)) w, ha.put hk.1 _, hc⟩
    · rename_i v
      split at hev <;> try cases hev
      rename_i T x lo hi mx hop
      exact ⟨_, fun w => by rw [look_exec ha hk.2]; exact run_sl hop (hq _ (List.mem_singleton.2 rfl)) w, ha.put hk.1 _, hc⟩
    · split at hev <;> try cases hev
      · rename_i S T x hop
        split at hev <;> try cases hev
        rename_i k k' c hT hx
        split at hev <;> try cases hev
        rename_i hS
        exact ⟨_, fun w => by rw [look_exec ha hk.2]; exact run_conv hop (Option.isSome_iff_exists.1 hS) hT hx (hq _ (List.mem_singleton.2 rfl)) w, ha.put hk.1 _, hc⟩
      rename_i op T x y U hop
      split at hev <;> try cases hev
      rename_i k p k' q hx hy
      split at hev <;> try cases hev
      rename_i hkk
      split at hev <;> try cases hev
      rename_i c hcc
      subst hkk
      exact ⟨_, fun w => by rw [look_exec ha hk.2]; exact run_arith hop hx hy hcc (hq _ (List.mem_singleton.2 rfl)) w, ha.put hk.1 _, hc⟩
    · rename_i b of m
      split at hev <;> try cases hev
      rename_i T x y hop
      split at hev <;> try cases hev
      rename_i e p len cap k i hu hx hy
      split at hev <;> try cases hev
      rename_i inf hi
      exact ⟨_, fun w => by rw [look_exec ha hk.2]; exact run_at hop hx hy hu hi (hq _ (by simp)) (hq _ (by simp)) (hq _ (by simp)) w, ha.put hk.1 _, hc⟩
    · split at hev <;> try cases hev
      rename_i op T x y U hop
      split at hev <;> try cases hev
      rename_i k p k' q hx hy
      split at hev <;> try cases hev
      rename_i hkk
      obtain ⟨rfl, hcc⟩ := hkk
      exact ⟨_, fun w => by rw [look_exec ha hk.2]; exact run_cmp hop hx hy hcc true (hq _ (List.mem_singleton.2 rfl)) w, ha.put hk.1 _, hc⟩
    · split at hev <;> try cases hev
      rename_i op T x y U hop
      split at hev <;> try cases hev
      rename_i k p k' q hx hy
      split at hev <;> try cases hev
      rename_i hkk
      obtain ⟨rfl, hcc⟩ := hkk
      exact ⟨_, fun w => by rw [look_exec ha hk.2]; exact run_cmp hop hx hy hcc false (hq _ (List.mem_singleton.2 rfl)) w, ha.put hk.1 _, hc⟩
end

/-- Operations is, in this order: each may come up, asks no world, and can be taken first. -/
def evTs (P : Program) (n : Nat) (all : List Oper) (hs : List (Nat × Hint)) : List Nat → Array Bool → Sl → Option (Array Bool × Sl × List Prop)
  | [], listed, l => some (listed, l, [])
  | i :: is, listed, l => match all[i]? with
    | none => none
    | some o => if (Region.ready .any all.toArray listed).contains i && Region.free .any all.toArray listed i then match wantL all l o with
        | none => none
        | some false => if okD n o.dst && calm1 o then evTs P n all hs is (listed.setIfInBounds i true) (putL o.dst undef l) else none
        | some true => match evT P n o ((hs.lookup i).getD (.go [])) l with
          | none => none
          | some r => match evTs P n all hs is (listed.setIfInBounds i true) r.1 with
            | none => none
            | some r2 => some (r2.1, r2.2.1, r.2 ++ r2.2.2)
      else none

/-- A panic's goal does not look at the slots. -/
def PanicB (R : Exit → Act → World → Prop) : Prop := ∀ c (a a' : Act) w, a.defers = a'.defers → R (.panic c) a w → R (.panic c) a' w
theorem panic_body {P : Program} {fn : Func} {R : Ending → World → Prop} : PanicB (bodyPost P fn R) := fun c a a' w h hr => ⟨h ▸ hr.1, hr.2⟩
theorem panic_post {rd : Option Nat} {P : Program} {R : Exit → Act → World → Prop} (h : PanicB R) : ∀ k, PanicB (postF rd P R k)
  | [] => h
  | .seq _ :: k => panic_post h k
  | .block _ :: k => panic_post h k
  | .loop _ :: k => panic_post h k

structure Any (E : Env) (k : List Fr) (all : List Oper) (f : Nat) (listed : Array Bool) (l : Sl) (L : List Ob) : Prop where
  out : ∀ a w, SlR E.n E.D l a → Hs E.w0 L w → wpAnyIn (fen E.rd) 0 E.P .any all.toArray (postF E.rd E.P E.R k) f listed a w

section
variable {E : Env} {k : List Fr} {l : Sl} {L : List Ob} {all : List Oper} {listed : Array Bool} {f : Nat}
theorem evTs_run (hrd : E.rd = none) (hp : PanicB E.R) (hsel : Region.noSelect all.toArray = true) {hs : List (Nat × Hint)} : ∀ (is : List Nat) (listed : Array Bool) (l : Sl) (r : Array Bool × Sl × List Prop) (a : Act) (w : World), evTs E.P E.n all hs is listed l = some r → SlR E.n E.D l a → (∀ p ∈ r.2.2, p) →
    (∀ a', SlR E.n E.D r.2.1 a' → wpAnyIn (fen E.rd) 0 E.P .any all.toArray (postF E.rd E.P E.R k) f r.1 a' w) → wpAnyIn (fen E.rd) 0 E.P .any all.toArray (postF E.rd E.P E.R k) (f + is.length) listed a w
  | [], listed, l, r, a, w, h, ha, _, hK => by
    simp only [evTs, Option.some.injEq] at h; subst h
    exact hK a ha
  | i :: is, listed, l, r, a, w, h, ha, hq, hK => by
    simp only [evTs] at h
    split at h <;> try cases h
    rename_i o hio
    split at h <;> try cases h
    rename_i hrf
    simp only [Bool.and_eq_true] at hrf
    have hio' : all.toArray[i]? = some o := by simpa using hio
    have hQ : ∀ (v : Value) c a w, postF E.rd E.P E.R k (.panic c) (a.put o.dst v) w → postF E.rd E.P E.R k (.panic c) a w := fun v c a w h => panic_post hp k c (a.put o.dst v) a w (by unfold Act.put; split <;> rfl) h
    rw [show f + (i :: is).length = (f + is.length) + 1 by simp; omega]
    split at h <;> try cases h
    · rename_i hwant
      split at h <;> try cases h
      rename_i hd
      simp only [Bool.and_eq_true] at hd
      have hg := wantL_spec ha hwant
      refine wpAnyIn_first (by rw [hrd]; rfl) hio' (Region.noSelect_spec hsel) (hQ undef) _ _ _ _ (Region.free_spec hio' hrf.2) (by simpa using hrf.1) ⟨.inr ⟨hg, rfl⟩, fun w => about_calm hd.2⟩ ?_
      exact evTs_run hrd hp hsel is _ _ r _ w h (ha.put hd.1 undef) hq hK
    · rename_i hwant
      split at h <;> try cases h
      rename_i q hev
      split at h <;> try cases h
      rename_i r2 hev'
      have hg := wantL_spec ha hwant
      obtain ⟨v, h1, h2, h3⟩ := evT_run hev ha (fun p hp => hq p (List.mem_append_left _ hp))
      refine wpAnyIn_first (by rw [hrd]; rfl) hio' (Region.noSelect_spec hsel) (hQ v) _ _ _ _ (Region.free_spec hio' hrf.2) (by simpa using hrf.1) ⟨.inl ⟨hg, h1⟩, fun w => about_calm h3⟩ ?_
      exact evTs_run hrd hp hsel is _ _ r2 _ w hev' h2 (fun p hp => hq p (List.mem_append_right _ hp)) hK

theorem at_any {id : Nat} (hm : E.P.follows .mixedOrders = true) (h : Any E k all all.length (Array.replicate all.length false) l L) : At E k (.region id all.toArray true) l L :=
  ⟨fun a w ha hs => wpIn_region_any hm (by simpa using h.out a { w with drawn := w.drawn + 1 } ha ⟨hs.rows, hs.low, hs.apart, hs.below.drew⟩)⟩
/-- What only reckons, taken first. -/
theorem any_take (is : List Nat) (hs : List (Nat × Hint)) (ts : List Nat) (ch : Sl) (rq : List Prop) (li : Array Bool) (hrd : E.rd = none) (hp' : ∃ fn R, E.R = bodyPost E.P fn R) (hsel : Region.noSelect all.toArray = true)
    (h : (evTs E.P E.n all hs is listed l).map (fun r => (r.1, keepL r.2.1 (ch.map (·.1) ++ ts), r.2.2)) = some (li, some (ch ++ restL l ts), rq)) (h3 : AllP rq) (h4 : Any E k all f li (ch ++ restL l ts) L) : Any E k all (f + is.length) listed l L := by
  have hp : PanicB E.R := by obtain ⟨fn, R, e⟩ := hp'; rw [e]; exact panic_body
  refine ⟨fun a w ha hw => ?_⟩
  cases hev : evTs E.P E.n all hs is listed l with
  | none => rw [hev] at h; cases h
  | some r =>
    rw [hev] at h
    simp only [Option.map_some, Option.some.injEq, Prod.mk.injEq] at h
    obtain ⟨rfl, h2, h5⟩ := h
    exact evTs_run hrd hp hsel is listed l r a w hev ha (by rw [h5]; exact allP_mem h3) fun a' ha' => h4.out a' w (ha'.sub (keepL_mem h2)) hw
theorem any_one_aux {F : Fence} {n : Nat} {P : Program} {o : Oper} {a : Act} {w : World} {ops : Array Oper} {I : Act → World → Prop} {Q : Exit → Act → World → Prop} (h : o.wpIn F n P a w (wpListIn F n P ops (Exit.then I Q) []) (Exit.then I Q)) : o.wpIn F n P a w I Q := h
/-- The one that may come up. -/
theorem any_one (i : Nat) (o : Oper) (hr : Region.ready .any all.toArray listed = [i]) (ho : all[i]? = some o)
    (h : Ops E (.loop (fun a w => wpAnyIn (fen E.rd) 0 E.P .any all.toArray (postF E.rd E.P E.R k) f (listed.setIfInBounds i true) a w) :: k) all [o] i l L) : Any E k all (f + 1) listed l L := by
  refine ⟨fun a w ha hs => ?_⟩
  unfold wpAnyIn
  refine ⟨fun h0 => (by rw [hr] at h0; cases h0), fun j hj => ?_⟩
  rw [hr] at hj
  obtain rfl := List.mem_singleton.1 hj
  have := h.out a w ha hs
  unfold wpOpIn
  have ho' : all.toArray[j]? = some o := by simpa using ho
  simp only [ho']
  unfold wpListIn at this
  split
  · rename_i hw
    rw [if_pos hw] at this
    exact any_one_aux this
  · rename_i hw
    rw [if_neg hw] at this
    exact ⟨this.1, this.2⟩
/-- Each that may come up, one after the other. -/
def EachF (E : Env) (k : List Fr) (all : List Oper) (f : Nat) (listed : Array Bool) (l : Sl) (L : List Ob) : List Nat → Prop
  | [] => True
  | i :: is => (∃ o, all[i]? = some o ∧ Ops E (.loop (fun a w => wpAnyIn (fen E.rd) 0 E.P .any all.toArray (postF E.rd E.P E.R k) f (listed.setIfInBounds i true) a w) :: k) all [o] i l L) ∧ EachF E k all f listed l L is
theorem each_mem : ∀ {is : List Nat}, EachF E k all f listed l L is → ∀ i ∈ is, ∃ o, all[i]? = some o ∧ Ops E (.loop (fun a w => wpAnyIn (fen E.rd) 0 E.P .any all.toArray (postF E.rd E.P E.R k) f (listed.setIfInBounds i true) a w) :: k) all [o] i l L
  | [], _, _, h => by cases h
  | j :: is, h, i, hi => by
    rcases List.mem_cons.1 hi with rfl | hi
    · exact h.1
    · exact each_mem h.2 i hi
theorem any_fork (is : List Nat) (hr : Region.ready .any all.toArray listed = is) (hne : is ≠ []) (h : EachF E k all f listed l L is) : Any E k all (f + 1) listed l L := by
  refine ⟨fun a w ha hs => ?_⟩
  unfold wpAnyIn
  refine ⟨fun h0 => (by rw [hr] at h0; exact absurd h0 hne), fun j hj => ?_⟩
  rw [hr] at hj
  obtain ⟨o, ho, h1⟩ := each_mem h j hj
  have := h1.out a w ha hs
  unfold wpOpIn
  have ho' : all.toArray[j]? = some o := by simpa using ho
  simp only [ho']
  unfold wpListIn at this
  split
  · rename_i hw
    rw [if_pos hw] at this
    exact any_one_aux this
  · rename_i hw
    rw [if_neg hw] at this
    exact ⟨this.1, this.2⟩
/-- Behind one operation. -/
theorem done_any {i : Nat} (h : Any E k all f (listed.setIfInBounds i true) l L) : Done E (.loop (fun a w => wpAnyIn (fen E.rd) 0 E.P .any all.toArray (postF E.rd E.P E.R k) f (listed.setIfInBounds i true) a w) :: k) l L :=
  done_loop fun a w ha hs => h.out a w ha hs
theorem any_nil (hr : Region.ready .any all.toArray listed = []) (h : Done E k l L) : Any E k all 0 listed l L :=
  ⟨fun a w ha hs => ⟨hr, h.out a w ha hs⟩⟩
/-- The state behind a piece of code, told: the ways through it meet again. -/
def Meet (E : Env) (l : Sl) (L : List Ob) : Act → World → Prop := fun a w => SlR E.n E.D l a ∧ Hs E.w0 L w
theorem at_meet {c : Code} (l' : Sl) (L' : List Ob) (h1 : At E (.loop (Meet E l' L') :: k) c l L) (h2 : Done E k l' L') : At E k c l L :=
  ⟨fun a w ha hs => by
    refine wpIn_mono (h1.out a w ha hs) fun e a w q => ?_
    cases e with
    | normal => exact h2.out a w q.1 q.2
    | _ => exact q⟩
theorem done_meet {l' : Sl} {L' : List Ob} (ts : List Nat) (hl : keepL l ts = some l') (hL : L = L') : Done E (.loop (Meet E l' L') :: k) l L :=
  done_loop fun a w ha hs => ⟨ha.sub (keepL_mem hl), hL ▸ hs⟩
theorem each_nil : EachF E k all f listed l L [] := trivial
theorem each_cons {i : Nat} {is : List Nat} (o : Oper) (ho : all[i]? = some o) (h : Ops E (.loop (fun a w => wpAnyIn (fen E.rd) 0 E.P .any all.toArray (postF E.rd E.P E.R k) f (listed.setIfInBounds i true) a w) :: k) all [o] i l L) (t : EachF E k all f listed l L is) : EachF E k all f listed l L (i :: is) := ⟨⟨o, ho, h⟩, t⟩
/-- A state that all ways come to, told. -/
theorem any_cut (f' : Nat) (listed' : Array Bool) (l' : Sl) (L' : List Ob) (h2 : Any E k all f' listed' l' L') (h1 : Any E k all f' listed' l' L' → Any E k all f listed l L) : Any E k all f listed l L := h1 h2
/-- The same, where the ways make new blocks. -/
theorem any_cutG (f' : Nat) (listed' : Array Bool) (l' : (Nat → Nat) → Sl) (L' : (Nat → Nat) → List Ob) (h2 : ∀ γ, Any E k all f' listed' (l' γ) (L' γ)) (h1 : (∀ γ, Any E k all f' listed' (l' γ) (L' γ)) → Any E k all f listed l L) : Any E k all f listed l L := h1 h2
theorem any_weak {f' : Nat} {listed' : Array Bool} {l' : Sl} {L' : List Ob} (h : Any E k all f' listed' l' L') (ts : List Nat) (hl : keepL l ts = some l') (hL : L = L') (hf : f = f') (hli : listed = listed') : Any E k all f listed l L := by
  subst hL hf hli
  exact ⟨fun a w ha hs => h.out a w (ha.sub (keepL_mem hl)) hs⟩

/-- A call walked into. -/
theorem ops_inline {os : List Oper} {o : Oper} {i : Nat} {g : FuncId} {args : Array Value} {fn : Func} {c : Code} {n' : Nat} (hw : wantL all l o = some true) (hd : okD E.n o.dst = true) (hc : calleeL l o = some (g, args)) (he : ∀ args w, (callFunc g args).run E.P w = .ok (.enter g args) w)
    (hf : E.P.funcs[g]? = some fn) (hb : fn.body = some c) (hn : fn.ntmps = n') (hs : Nat.ble args.size n' = true)
    (h : At ⟨E.P, none, [], bodyPost E.P fn (fun e w' => ∃ v L', e = .returned v ∧ Hs E.w0 L' w' ∧ Ops E k all os (i + 1) (putL o.dst v l) L'), E.w0, n'⟩ [] c (argL args) L) : Ops E k all (o :: os) i l L := by
  refine ⟨fun a w ha hs' => ?_⟩
  have hg := wantL_spec ha hw
  refine wpListIn_step fun K hK => ?_
  rw [if_pos hg]
  refine ⟨fun _ _ => trivial, ?_⟩
  rw [Oper.semAt_eq _ _ _ (callee_known hc), run_callee ha hc he w]
  refine ⟨fun h => (by cases h), fen_calls ?_⟩
  refine (enter hs' hf hb hn hs h).mono fun e w' ⟨v, L', he, hs2, hO⟩ => ?_
  subst he
  exact hK _ _ (hO.out _ _ (ha.put hd v) hs2)
theorem at_back {P : Program} {fn : Func} {w0 : World} {n : Nat} {X : Value → List Ob → Prop} (src : List Src) (v : Value) (rq : List Prop) (h1 : rSeen (retV P w0 fn.results.toList l L src) = some (v, rq)) (h2 : rtL (retV P w0 fn.results.toList l L src) = rtR (retV P w0 fn.results.toList l L src)) (h3 : AllP rq)
    (h : X v L) : At ⟨P, none, [], bodyPost P fn (fun e w' => ∃ v L', e = .returned v ∧ Hs w0 L' w' ∧ X v L'), w0, n⟩ k .ret l L :=
  at_return src v rq h1 h2 h3 fun _ hw => ⟨v, L, rfl, hw, h⟩
theorem done_back {P : Program} {fn : Func} {w0 : World} {n : Nat} {X : Value → List Ob → Prop} (hr : fn.results = #[]) (h : X (.tuple #[]) L) : Done ⟨P, none, [], bodyPost P fn (fun e w' => ∃ v L', e = .returned v ∧ Hs w0 L' w' ∧ X v L'), w0, n⟩ [] l L :=
  done_return hr fun _ hw => ⟨_, L, rfl, hw, h⟩
/-- any_take, in a function's own body. -/
theorem any_tk {P : Program} {fn : Func} {R : Ending → World → Prop} {w0 : World} {n : Nat} (is : List Nat) (hs : List (Nat × Hint)) (ts : List Nat) (ch : Sl) (rq : List Prop) (li : Array Bool) (hsel : Region.noSelect all.toArray = true)
    (h : (evTs P n all hs is listed l).map (fun r => (r.1, keepL r.2.1 (ch.map (·.1) ++ ts), r.2.2)) = some (li, some (ch ++ restL l ts), rq)) (h3 : AllP rq) (h4 : Any ⟨P, none, [], bodyPost P fn R, w0, n⟩ k all f li (ch ++ restL l ts) L) : Any ⟨P, none, [], bodyPost P fn R, w0, n⟩ k all (f + is.length) listed l L :=
  any_take (E := ⟨P, none, [], bodyPost P fn R, w0, n⟩) is hs ts ch rq li rfl ⟨fn, R, rfl⟩ hsel h h3 h4
end
end Go.Proofs.Ytfhlmijdokfdpaa
