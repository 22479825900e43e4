/- The walker: a range over a function, walked in place: the function's own body, and at each call of yield the loop's body. -/
import Derived.Test.YtfhlmijdokfdpaaEj
import Derived.RangeFuncRecord
namespace Go.Proofs.Ytfhlmijdokfdpaa
open Go Go.RowKit

/-- A loop's record that is ready. -/
structure RecOk (n : Nat) (l : Sl) (ps : Array Tmp) (asg body : Code) (r : Loop) : Prop where
  state : r.state = .ready
  pending : r.pending = none
  params : r.params = ps
  assign : r.assign = asg
  body : r.body = body
  slots : SlR n [] l { tmps := r.tmps, defers := [] }
/-- yield's arguments in the loop's slots. -/
def setps : List (Tmp × Value) → Sl → Sl
  | [], l => l
  | (t, v) :: ps, l => setps ps (putL (some t) v l)
/-- Which loop a call of yield asks, with what. -/
def yieldL (l : Sl) (o : Oper) : Option (Nat × Array Value) :=
  if knownO l o then match o.op with
    | .call c => match c.callee with
      | .value x => match look l x with
        | .func (.yield y) first _ => some (y, first ++ c.args.map (look l))
        | _ => none
      | _ => none
    | _ => none
  else none
theorem turn_ob2 {g : Nat} {o o' : Obj} {w : World} (h : w.heap[g]? = some o) : Turn g o' w (w.putObj g o') :=
  ⟨World.putObj_heap_same (Array.getElem?_eq_some_iff.1 h).1, fun _ hk => World.putObj_heap_other hk, by simp [World.putObj], rfl, rfl, rfl⟩
theorem Hs.gone {w0 w : World} {L : List Ob} {g : Nat} {o o' : Obj} {i : Nat} (h : Hs w0 L w) (hi : L[i]? = some (g, o)) : Hs w0 (L.eraseIdx i) (w.putObj g o') :=
  (h.turn i hi (turn_ob2 (h.row i hi))).sub (by rw [← List.eraseIdx_set_eq (l := L) (i := i) (a := (g, o'))]; exact List.eraseIdx_sublist ..)
theorem setps_ok {n : Nat} : ∀ (ps : List (Tmp × Value)) (l : Sl) (t : Array Value), (ps.all fun p => Nat.blt p.1 n) = true → SlR n [] l { tmps := t, defers := [] } →
    SlR n [] (setps ps l) { tmps := ps.foldl (fun t (p, v) => t.setIfInBounds p v) t, defers := [] }
  | [], _, _, _, h => h
  | (p, v) :: ps, l, t, hp, h => by
    simp only [List.all_cons, Bool.and_eq_true] at hp
    exact setps_ok ps _ _ hp.2 (h.put (d := some p) hp.1 v)

section
variable {E : Env} {k : List Fr} {l : Sl} {L : List Ob} {all os : List Oper} {o : Oper} {i : Nat}
/-- The statement. -/
theorem at_range {P : Program} {D : List Deferred} {R : Exit → Act → World → Prop} {w0 : World} {n : Nat} {g : Operand} {ps : Array Tmp} {asg body : Code} {gf : FuncId} {lb : Array Value} {fn2 : Func} {c2 : Code} {n2 : Nat}
    (hg : (knownX l g, look l g) = (true, .func (.func gf) #[] lb)) (he : ∀ args w, (callFunc gf args).run P w = .ok (.enter gf args) w)
    (hf : P.funcs[gf]? = some fn2) (hb : fn2.body = some c2) (hn : fn2.ntmps = n2) (hs : Nat.ble (#[Value.func (.yield 0) #[] #[]] ++ lb).size n2 = true)
    (h : ∀ (γ : Nat → Nat) (r : Loop), RecOk n l ps asg body r →
      At ⟨P, none, [], bodyPost P fn2 (fun e w' => ∃ v L', e = .returned v ∧ Hs w0 L' w' ∧ ∃ i, L'[i]? = some (γ 1, .loop r) ∧ Done ⟨P, none, ⟨.collected (γ 0), #[]⟩ :: D, R, w0, n⟩ k l (L'.eraseIdx i)), w0, n2⟩ []
        c2 (argL (#[.func (.yield (γ 1)) #[] #[]] ++ lb)) ((γ 1, .loop r) :: (γ 0, .deferred (some [])) :: L)) : At ⟨P, none, D, R, w0, n⟩ k (.rangeFunc g ps asg body) l L := by
  obtain ⟨hg1, hg2⟩ := Prod.mk.inj hg
  refine ⟨fun a w ha hw => wpIn_rangeFunc fun fn hfn => ?_⟩
  have hgv : a.eval g = .func (.func gf) #[] lb := by rw [look_eval ha hg1, hg2]
  obtain ⟨r, hr⟩ : ∃ r : Loop, r = { state := .ready, pending := none, fn, tmps := a.tmps, params := ps, assign := asg, body := body, defers := w.heap.size } := ⟨_, rfl⟩
  have hs1 : Hs w0 ((w.heap.size + 1, .loop r) :: (w.heap.size, .deferred (some [])) :: L) ((w.alloc (.deferred (some []))).alloc (.loop r)) := by
    have := (hw.cons (.deferred (some []))).cons (.loop r)
    rwa [World.size_alloc] at this
  have hok : RecOk n l ps asg body r := by subst hr; exact ⟨rfl, rfl, rfl, rfl, rfl, ⟨ha.got, ha.size, rfl⟩⟩
  refine ⟨w.heap.size + 1, [{ target := .collected w.heap.size, args := #[] }], (w.alloc (.deferred (some []))).alloc (.loop r), { target := .fn (.func gf) lb, args := #[.func (.yield (w.heap.size + 1)) #[] #[]] }, (w.alloc (.deferred (some []))).alloc (.loop r), gf, #[.func (.yield (w.heap.size + 1)) #[] #[]] ++ lb, (w.alloc (.deferred (some []))).alloc (.loop r),
    by rw [hr]; exact run_enterLoop_outer _ _ _ _ _, ?_, fun f' hf' => trivial, ?_, fun e => (by cases e), ?_⟩
  · simp only [resolve, hgv]
    simp [go_sem]
  · simp [invoke, go_sem, he]
  · refine fen_calls ((enter hs1 hf hb hn (by simpa using hs) (h (fun i => w.heap.size + i) r hok)).mono ?_)
    rintro e w3 ⟨v, L', rfl, hs3, j, hj, hd⟩
    have hl := hs3.row j hj
    refine ⟨none, _, by have := run_endLoop (P := P) hl (by rw [hok.state]; simp); rw [hok.pending] at this; exact this, ?_⟩
    exact hd.out _ _ ⟨ha.got, ha.size, by simp [ha.defers]⟩ (hs3.gone hj)

/-- A call of yield: one round. -/
theorem ops_yield {P : Program} {D : List Deferred} {R : Exit → Act → World → Prop} {w0 : World} {n : Nat} {y : Nat} {args : Array Value} {r : Loop} {nc : Nat} {lc : Sl} {ps : Array Tmp} {asg body : Code}
    (hw : wantL all l o = some true) (hd : okD n o.dst = true) (hc : yieldL l o = some (y, args)) (j : Nat) (hj : L[j]? = some (y, .loop r)) (hr : RecOk nc lc ps asg body r) (hps : args.size = ps.size) (hpn : ((ps.zip args).toList.all fun p => Nat.blt p.1 nc) = true)
    (h : At ⟨P, some y, [], Exit.then (fun a w => ∃ L2 l2 j2, SlR nc [] l2 a ∧ Hs w0 L2 w ∧ L2[j2]? = some (y, .loop r) ∧
        At ⟨P, some y, [], fun e _ w => e = .normal ∧ ∃ L3 j3, Hs w0 L3 w ∧ L3[j3]? = some (y, .loop { r with state := .busy }) ∧ Ops ⟨P, none, D, R, w0, n⟩ k all os (i + 1) (putL o.dst (.bool true) l) (L3.set j3 (y, .loop r)), w0, nc⟩ [] body l2 (L2.set j2 (y, .loop { r with state := .busy })))
        (fun _ _ _ => False), w0, nc⟩ [] asg (setps (ps.zip args).toList lc) L) : Ops ⟨P, none, D, R, w0, n⟩ k all (o :: os) i l L := by
  refine ⟨fun a w ha hs => ?_⟩
  have hg := wantL_spec ha hw
  refine wpListIn_step fun K hK => ?_
  rw [if_pos hg]
  refine ⟨fun _ _ => trivial, ?_⟩
  have hl := hs.row j hj
  have hy := run_yield (P := P) (args := args) hl (by rw [hr.params]; exact hps)
  have hop : ∀ c, o.op ≠ .defer c := fun c e => by
    unfold yieldL at hc
    rw [e] at hc
    split at hc <;> cases hc
  have hrun : (execOp a.eval o).run P w = .ok (.round y r.fn ((r.params.zip args).foldl (fun tmps (t, a) => tmps.setIfInBounds t a) r.tmps) r.assign r.body) w := by
    have hc' := hc
    unfold yieldL at hc'
    split at hc' <;> try cases hc'
    rename_i hk
    rw [look_exec ha hk]
    split at hc' <;> try cases hc'
    rename_i c hop'
    split at hc' <;> try cases hc'
    rename_i x hx
    split at hc' <;> try cases hc'
    rename_i z first cap hv
    simp only [execOp, hop', resolve, hx, hv, Deferred.ofValue, Sem.run_bind, Sem.run_pure, Result.andThen_ok, invoke]
    exact hy
  rw [Oper.semAt_eq _ _ _ hop, hrun]
  refine ⟨fun e => (by cases e), ?_⟩
  rw [hr.assign, hr.body, hr.params]
  have hsl := setps_ok (ps.zip args).toList lc r.tmps hpn hr.slots
  refine roundIn_of_wpIn (F := fen none) trivial ?_
  rw [Array.foldl_toList] at hsl
  refine wpIn_mono (h.out _ _ hsl hs) ?_
  rintro e a1 w1 hq
  cases e with
  | normal =>
    obtain ⟨L2, l2, j2, ha2, hs2, hj2, hat⟩ := hq
    have hl2 := hs2.row j2 hj2
    refine ⟨_, run_beginRound hl2 hr.state, ?_⟩
    refine wpIn_mono (hat.out _ _ ha2 (hs2.turn j2 hj2 (turn_ob2 hl2))) ?_
    rintro e a3 w3 ⟨rfl, L3, j3, hs3, hj3, hops⟩
    have hl3 := hs3.row j3 hj3
    refine ⟨_, _, run_endRound none hl3, ?_⟩
    have hrr : ({ ({ r with state := .busy } : Loop) with state := .ready, pending := none } : Loop) = r := by
      have h1 := hr.state; have h2 := hr.pending
      cases r; simp only at h1 h2; subst h1; subst h2; rfl
    refine hK _ _ (hops.out _ _ (ha.put hd _) ?_)
    have := hs3.turn j3 hj3 (turn_ob2 (o' := .loop r) hl3)
    simpa [hrr] using this
  | _ => exact hq.elim
/-- The loop's variables are set: the body. -/
theorem done_asg {P : Program} {w0 : World} {y nc : Nat} {r : Loop} {body : Code} {R : Exit → Act → World → Prop} (j : Nat) (hj : L[j]? = some (y, .loop r)) (h : At ⟨P, some y, [], R, w0, nc⟩ [] body l (L.set j (y, .loop { r with state := .busy }))) :
    Done ⟨P, some y, [], Exit.then (fun a w => ∃ L2 l2 j2, SlR nc [] l2 a ∧ Hs w0 L2 w ∧ L2[j2]? = some (y, .loop r) ∧ At ⟨P, some y, [], R, w0, nc⟩ [] body l2 (L2.set j2 (y, .loop { r with state := .busy }))) (fun _ _ _ => False), w0, nc⟩ [] l L :=
  ⟨fun _ _ ha hw => ⟨L, l, j, ha, hw, hj, h⟩⟩
/-- A round is over. -/
theorem done_rnd {P : Program} {w0 : World} {y nc : Nat} {r : Loop} {K : List Ob → Prop} (j : Nat) (hj : L[j]? = some (y, .loop { r with state := .busy })) (h : K (L.set j (y, .loop r))) :
    Done ⟨P, some y, [], fun e _ w => e = .normal ∧ ∃ L3 j3, Hs w0 L3 w ∧ L3[j3]? = some (y, .loop { r with state := .busy }) ∧ K (L3.set j3 (y, .loop r)), w0, nc⟩ [] l L :=
  ⟨fun _ _ _ hw => ⟨rfl, L, j, hw, hj, h⟩⟩
/-- A call walked into, of a function that holds a range over a function. -/
theorem ops_inlineM {os : List Oper} {o : Oper} {i : Nat} {g : FuncId} {args : Array Value} {fn : Func} {c : Code} {n' : Nat} (hw : wantL all l o = some true) (hd : okD E.n o.dst = true) (hc : calleeL l o = some (g, args)) (he : ∀ args w, (callFunc g args).run E.P w = .ok (.enter g args) w)
    (hf : E.P.funcs[g]? = some fn) (hb : fn.body = some c) (hn : fn.ntmps = n') (hs : Nat.ble args.size n' = true)
    (h : At ⟨E.P, none, [], bodyPostM (fen none) 0 E.P fn (fun e w' => ∃ v L', e = .returned v ∧ Hs E.w0 L' w' ∧ Ops E k all os (i + 1) (putL o.dst v l) L'), E.w0, n'⟩ [] c (argL args) L) : Ops E k all (o :: os) i l L := by
  refine ⟨fun a w ha hs' => ?_⟩
  have hg := wantL_spec ha hw
  refine wpListIn_step fun K hK => ?_
  rw [if_pos hg]
  refine ⟨fun _ _ => trivial, ?_⟩
  rw [Oper.semAt_eq _ _ _ (callee_known hc), run_callee ha hc he w]
  refine ⟨fun h => (by cases h), fen_calls ?_⟩
  have hs2 : args.size ≤ n' := Nat.le_of_ble_eq_true hs
  have hC : CallsIn (fen none) 0 E.P g args w (fun e w' => ∃ v L', e = .returned v ∧ Hs E.w0 L' w' ∧ Ops E k all os (i + 1) (putL o.dst v l) L') := by
    refine callsIn_of_wp_marks hf hb trivial (h.out _ _ ⟨fun p hp => ?_, by simp [hn]; omega, rfl⟩ hs') rfl
    obtain ⟨x, hx, rfl⟩ := List.mem_map.1 hp
    have := List.mem_zipIdx_iff_getElem?.1 hx
    simp only at this ⊢
    have hlt : x.2 < args.size := by simpa using (List.getElem?_eq_some_iff.1 this).1
    rw [Array.getElem?_append_left hlt]
    simpa using this
  refine (callsIn_wide.1 hC).mono fun e w' ⟨v, L', he, hs2, hO⟩ => ?_
  subst he
  exact hK _ _ (hO.out _ _ (ha.put hd v) hs2)
/-- Its return. -/
theorem at_backM {P : Program} {fn : Func} {w0 : World} {n d : Nat} {X : Value → List Ob → Prop} (j : Nat) (hj : L[j]? = some (d, .deferred (some []))) (src : List Src) (v : Value) (rq : List Prop) (h1 : rSeen (retV P w0 fn.results.toList l (L.eraseIdx j) src) = some (v, rq))
    (h2 : rtL (retV P w0 fn.results.toList l (L.eraseIdx j) src) = rtR (retV P w0 fn.results.toList l (L.eraseIdx j) src)) (h3 : AllP rq)
    (h : X v (L.eraseIdx j)) : At ⟨P, none, [⟨.collected d, #[]⟩], bodyPostM (fen none) 0 P fn (fun e w' => ∃ v L', e = .returned v ∧ Hs w0 L' w' ∧ X v L'), w0, n⟩ k .ret l L := by
  refine at_ret fun a w ha hw => ?_
  have hk := hw.row j hj
  have hw' := hw.gone (o' := .deferred none) hj
  have hb := ret_post (k := k) (R := fun e w' => ∃ v L', e = .returned v ∧ Hs w0 L' w' ∧ X v L') src v rq h1 h2 h3 (fun w hw => ⟨v, _, rfl, hw, h⟩) { a with defers := [] } _ ⟨ha.got, ha.size, rfl⟩ hw'
  obtain ⟨_, u, hu, hR⟩ := hb
  show LeavesInM (fen none) 0 P fn a.tmps _ a.defers .returning w
  rw [ha.defers]
  exact ⟨by simp, .inl ⟨d, _, rfl, run_takeDeferred hk, u, hu, hR⟩⟩
end
end Go.Proofs.Ytfhlmijdokfdpaa
