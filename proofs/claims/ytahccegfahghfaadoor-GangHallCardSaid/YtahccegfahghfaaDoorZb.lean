/- Texts of this proof, one behind the other. -/
import Derived.Test.YtahccegfahghfaaDoorZa
import Derived.Lib.TrailingZeros
import Derived.Test.YtahccegfahghfaaDoorProg
import Derived.Shelf.Spec.TrailingZeros
/-! The walker: a drawn region that acts, whose first operations only look and come up ahead of all others: they are walked once, in the order of the text. -/
namespace Go.Proofs.YtahccegfahghfaaDoor
open Go Go.RowKit

section
variable {P : Program} {ops : Array Oper} {C : (Nat → Bool) → World → Prop} {Q : Array Bool → Act → Prop} {m : Nat}
def lexTo (ops : Array Oper) : Nat → Nat → Array Bool → Bool
  | 0, _, _ => true
  | f + 1, k, listed => (Region.ready .any ops listed).contains k && Region.free .any ops listed k && lexTo ops f (k + 1) (listed.setIfInBounds k true)
def setTo : Nat → Nat → Array Bool → Array Bool
  | 0, _, L => L
  | n + 1, k, L => setTo n (k + 1) (L.setIfInBounds k true)
def wpPre (P : Program) (ops : Array Oper) (m : Nat) (C : (Nat → Bool) → World → Prop) (Q : Array Bool → Act → Prop) : Nat → Array Bool → Act → Prop
  | 0, listed, a => (∀ i ∈ Region.ready .any ops listed, ¬ i < m) ∧ Q listed a
  | f + 1, listed, a => (∃ i ∈ Region.ready .any ops listed, i < m) ∧ ∀ i ∈ Region.ready .any ops listed, i < m → ∃ o v, ops[i]? = some o ∧ Leaves P ops C i o v a ∧ wpPre P ops m C Q f (listed.setIfInBounds i true) (a.put o.dst v)
theorem wpPre_first {i : Nat} {oi : Oper} {v : Value} (him : i < m) (hi : ops[i]? = some oi) (hsel : ∀ (j : Nat) (o : Oper) cs b, ops[j]? = some o → o.op ≠ .select cs b) :
    ∀ (fuel : Nat) (listed : Array Bool) (a : Act),
      (∀ j oj, ops[j]? = some oj → j ≠ i → listed.getD j true = false → (∀ e ∈ oj.after, Region.binds .any e = true → e.on ≠ i) → oi.apart ops oj = true) →
      i ∈ Region.ready .any ops listed → Leaves P ops C i oi v a →
      wpPre P ops m C Q fuel (listed.setIfInBounds i true) (a.put oi.dst v) → wpPre P ops m C Q (fuel + 1) listed a := by
  intro fuel
  induction fuel with
  | zero =>
    intro listed a _ hr hy H
    refine ⟨⟨i, hr, him⟩, fun j hj hjm => ?_⟩
    by_cases hji : j = i
    · subst hji; exact ⟨oi, v, hi, hy, H⟩
    · exact absurd hjm (H.1 j (ready_mono hj hji))
  | succ fuel ih =>
    intro listed a hfree hr hy H
    refine ⟨⟨i, hr, him⟩, fun j hj hjm => ?_⟩
    by_cases hji : j = i
    · subst hji; exact ⟨oi, v, hi, hy, H⟩
    · obtain ⟨oj, u, hoj, hyj, hrest⟩ := H.2 j (ready_mono hj hji) hjm
      obtain ⟨hjun, oj', hoj', hall⟩ := mem_ready.1 hj
      obtain rfl : oj = oj' := Option.some.inj (hoj.symm.trans hoj')
      have hnot : ∀ e ∈ oj.after, Region.binds .any e = true → e.on ≠ i := fun e he hb heq => by
        have h1 := hall e he hb
        have h0 := (mem_ready.1 hr).1
        rw [heq] at h1
        rcases Nat.lt_or_ge i listed.size with h' | h'
        · simp [h'] at h0 h1; rw [h0] at h1; cases h1
        · simp [Array.getElem?_eq_none h'] at h1
      have hap := hfree j oj hoj hji hjun hnot
      obtain ⟨h1, h2, h3⟩ := Oper.apart_spec hap
      have hyj' : Leaves P ops C j oj u a := hyj.of_same (execOp_put oj (fun cs b => hsel j oj cs b hoj) a oi.dst v h1).symm (wanted_put oj a oi.dst v h1).symm
      have hyi' : Leaves P ops C i oi v (a.put oj.dst u) := hy.of_same (execOp_put oi (fun cs b => hsel i oi cs b hi) a oj.dst u h3) (wanted_put oi a oj.dst u h3)
      have hfree' : ∀ k ok, ops[k]? = some ok → k ≠ i → (listed.setIfInBounds j true).getD k true = false →
          (∀ e ∈ ok.after, Region.binds .any e = true → e.on ≠ i) → oi.apart ops ok = true := fun k ok hk hki hun hno => by
        refine hfree k ok hk hki ?_ hno
        by_cases hjk : j = k
        · subst hjk; exact hjun
        · rw [getD_set_ne true hjk] at hun; exact hun
      refine ⟨oj, u, hoj, hyj', ih _ _ hfree' (ready_mono hr (Ne.symm hji)) hyi' ?_⟩
      rw [Array.setIfInBounds_comm _ _ hji, ← Act.put_comm a v u h2]
      exact hrest
theorem wpPre_lex (hs : Region.noSelect ops = true) : ∀ (l : List Oper) (k : Nat) (listed : Array Bool) (a : Act), (∀ j, j < l.length → l[j]? = ops[k + j]?) → k + l.length = m → listed.size = ops.size → (∀ j, j < k → listed.getD j false = true) →
    lexTo ops l.length k listed = true → wpCalm P ops C (fun a' => Q (setTo l.length k listed) a') l k a → wpPre P ops m C Q l.length listed a
  | [], k, listed, _, _, hm, _, hd, _, h => by
    refine ⟨fun i hi him => ?_, h⟩
    have h1 := getD_both' (mem_ready.1 hi).1
    rw [hd i (by simp at hm; omega)] at h1
    cases h1
  | o :: l, k, listed, a, hl, hm, hsz, hd, hB, h => by
    have h0 : ops[k]? = some o := by simpa using (hl 0 (by simp)).symm
    simp only [List.length_cons, lexTo, Bool.and_eq_true] at hB
    obtain ⟨⟨hr, hf⟩, hB'⟩ := hB
    have hl' : ∀ j, j < l.length → l[j]? = ops[(k + 1) + j]? := fun j hj => by have := hl (j + 1) (by simpa using hj); simpa [Nat.add_assoc, Nat.add_comm 1 j] using this
    have hy : ∃ v, Leaves P ops C k o v a ∧ wpCalm P ops C (fun a' => Q (setTo (o :: l).length k listed) a') l (k + 1) (a.put o.dst v) := by
      unfold wpCalm at h
      split at h
      · rename_i hw; obtain ⟨v, h1, h2⟩ := h; exact ⟨v, .inl ⟨hw, h1⟩, h2⟩
      · rename_i hw; exact ⟨undef, .inr ⟨by simpa using hw, rfl, h.1⟩, h.2⟩
    obtain ⟨v, hy, hK⟩ := hy
    have hk : k < listed.size := by rw [hsz]; exact (Array.getElem?_eq_some_iff.1 h0).1
    exact wpPre_first (by simp at hm; omega) h0 (Region.noSelect_spec hs) l.length listed a (Region.free_spec h0 hf) (by simpa using hr) hy
      (wpPre_lex hs l (k + 1) _ _ hl' (by simp at hm; omega) (by simpa using hsz) (fun j hj => by
        have := congrFun (flags_set (listed := listed) (i := k) hk) j
        unfold flags upd at this
        rw [this]
        by_cases hjk : j = k
        · simp [hjk]
        · simp [hd j (by omega)]) hB' hK)
/-- What is listed has all that it waited for. -/
def Down (ops : Array Oper) (listed : Array Bool) : Prop := ∀ j, listed.getD j false = true → ∀ o, ops[j]? = some o → ∀ e ∈ o.after, Region.binds .any e = true → listed.getD e.on false = true
def reach (ops : Array Oper) : Nat → Nat → Nat → Bool
  | 0, _, _ => false
  | f + 1, i, t => match ops[i]? with
    | none => false
    | some o => o.after.any (fun e => Region.binds .any e && e.on == t) || o.after.any (fun e => Region.binds .any e && reach ops f e.on t)
def gate (ops : Array Oper) (m : Nat) : Bool := (List.range ops.size).all fun i => decide (i < m) || (List.range m).all fun t => reach ops ops.size i t
theorem reach_listed {listed : Array Bool} (hd : Down ops listed) : ∀ (f i t : Nat), reach ops f i t = true → (∀ o, ops[i]? = some o → ∀ e ∈ o.after, Region.binds .any e = true → listed.getD e.on false = true) → listed.getD t false = true
  | 0, _, _, h, _ => by cases h
  | f + 1, i, t, h, hi => by
    simp only [reach] at h
    split at h
    · cases h
    · rename_i o ho
      rw [Bool.or_eq_true, Array.any_eq_true', Array.any_eq_true'] at h
      rcases h with ⟨e, he, h⟩ | ⟨e, he, h⟩
      · simp only [Bool.and_eq_true, beq_iff_eq] at h
        rw [← h.2]; exact hi o ho e he h.1
      · simp only [Bool.and_eq_true] at h
        exact reach_listed hd f e.on t h.2 fun o' ho' => hd e.on (hi o ho e he h.1) o' ho'
def noDefer (l : List Oper) : Bool := l.all fun o => match o.op with
  | .defer _ => false
  | _ => true
theorem wpIn_of_calm {rd : Option Nat} {n : Nat} {o : Oper} {a : Act} {w : World} {C' : World → Prop} {v : Value} {K : Act → World → Prop} {Q : Exit → Act → World → Prop} (hdf : ∀ c, o.op ≠ .defer c) (h : calmAt P o a C' w v)
    (hK : ∀ w', C' w' → K (a.put o.dst v) w') : o.wpIn (fen rd) n P a w K Q := by
  refine ⟨fun _ _ => trivial, ?_⟩
  rw [Oper.semAt_eq _ _ _ hdf]
  unfold calmAt at h
  generalize (execOp a.eval o).run P w = r at *
  cases r with
  | ok x w' =>
    cases x <;> simp only [calmUpon] at h
    case value u => rw [h.1]; exact hK _ h.2
    case skip => obtain ⟨rfl, h2⟩ := h; exact hK _ h2
    case enter f args =>
      refine ⟨fun h => (by cases h), fen_calls ?_⟩
      exact h.mono fun e w'' ⟨he, hw''⟩ => by subst he; exact hK _ hw''
  | halt x w' => simp only [calmUpon] at h
theorem anyIn_of_pre {rd : Option Nat} {n f : Nat} {Q' : Exit → Act → World → Prop} (hdf : ∀ (j : Nat) (o : Oper) c, ops[j]? = some o → o.op ≠ .defer c) (hg : gate ops m = true)
    (hK : ∀ listed a w, Q listed a → C (flags listed) w → wpAnyIn (fen rd) n P .any ops Q' f listed a w) : ∀ (fuel : Nat) (listed : Array Bool) (a : Act) (w : World), C (flags listed) w → Down ops listed → wpPre P ops m C Q fuel listed a → wpAnyIn (fen rd) n P .any ops Q' (fuel + f) listed a w
  | 0, listed, a, w, hC, _, h => by rw [Nat.zero_add]; exact hK _ _ _ h.2 hC
  | fuel + 1, listed, a, w, hC, hD, h => by
    rw [show fuel + 1 + f = (fuel + f) + 1 by omega]
    obtain ⟨⟨i0, hi0, him0⟩, h⟩ := h
    unfold wpAnyIn
    refine ⟨fun h0 => (by rw [h0] at hi0; cases hi0), fun i hi => ?_⟩
    obtain ⟨hun, o', ho', hall⟩ := mem_ready.1 hi
    have him : i < m := by
      by_cases him : i < m
      · exact him
      · exfalso
        have h1 := List.all_eq_true.1 hg i (List.mem_range.2 (Array.getElem?_eq_some_iff.1 ho').1)
        simp only [him, decide_false, Bool.false_or] at h1
        have h2 := reach_listed hD _ _ _ (List.all_eq_true.1 h1 i0 (List.mem_range.2 him0)) fun o ho => by
          obtain rfl : o' = o := Option.some.inj (ho'.symm.trans ho)
          exact hall
        have h3 := getD_both' (mem_ready.1 hi0).1
        rw [h2] at h3; cases h3
    obtain ⟨o, v, ho, hy, hr⟩ := h i hi him
    obtain rfl : o = o' := Option.some.inj (ho.symm.trans ho')
    have hlt := ready_lt hi
    have hf := flags_set (listed := listed) hlt
    have hn : Now i o (flags listed) := ⟨getD_both' hun, hall⟩
    have hD' : Down ops (listed.setIfInBounds i true) := by
      intro j hj oj hoj e he hb
      by_cases hji : j = i
      · subst hji
        obtain rfl : o = oj := Option.some.inj (ho.symm.trans hoj)
        exact getD_set_true (hall e he hb)
      · rw [getD_set_ne false (fun e => hji e.symm)] at hj
        exact getD_set_true (hD j hj oj hoj e he hb)
    unfold wpOpIn
    simp only [ho]
    rcases hy with ⟨hwant, hv⟩ | ⟨hwant, rfl, hc⟩
    · rw [if_pos hwant]
      exact wpIn_of_calm (fun c => hdf i o c ho) (hv _ _ hC hn) fun w' hw' => anyIn_of_pre hdf hg hK fuel _ _ w' (by rw [hf]; exact hw') hD' hr
    · rw [if_neg (by simp [hwant])]
      exact ⟨fun _ _ => trivial, anyIn_of_pre hdf hg hK fuel _ _ w (by rw [hf]; exact hc _ _ hC hn) hD' hr⟩
end
section
variable {E : Env} {k : List Fr} {all : List Oper} {f : Nat} {l : Sl} {L : List Ob}
theorem at_calmTo {id : Nat} (m : Nat) (hrd : E.rd = none) (hm : E.P.follows .mixedOrders = true) (hsel : Region.noSelect all.toArray = true) (hdf : noDefer all = true) (hlex : lexTo all.toArray m 0 (Array.replicate all.length false) = true) (hg : gate all.toArray m = true) (hlen : all.length = m + f)
    (h : Calm E (.loop (fun a w => wpAnyIn (fen E.rd) 0 E.P .any all.toArray (postF E.rd E.P E.R k) f (setTo m 0 (Array.replicate all.length false)) a w) :: k) all (all.take m) 0 l L) : At E k (.region id all.toArray true) l L := by
  refine ⟨fun a w ha hs => wpIn_region_any hm ?_⟩
  have htl : (all.take m).length = m := by rw [List.length_take]; omega
  have hp := wpPre_lex (P := E.P) (C := fun _ w => Hs E.w0 L w) (Q := fun listed a' => ∀ w', Hs E.w0 L w' → wpAnyIn (fen E.rd) 0 E.P .any all.toArray (postF E.rd E.P E.R k) f listed a' w') (m := m) hsel (all.take m) 0 (Array.replicate all.length false) a
    (fun j hj => by rw [htl] at hj; simp [List.getElem?_take, hj]) (by omega) (by simp) (fun j hj => by omega) (by rw [htl]; exact hlex) (by rw [htl]; exact h.out a ha)
  rw [htl] at hp
  have := anyIn_of_pre (rd := E.rd) (n := 0) (f := f) (Q' := postF E.rd E.P E.R k) (fun j o c hj e => by
    have h1 := List.all_eq_true.1 hdf o (List.mem_of_getElem? (by simpa using hj))
    simp [e] at h1) hg (fun listed a' w' hq hC => hq w' hC) m (Array.replicate all.length false) a { w with drawn := w.drawn + 1 } ⟨hs.rows, hs.low, hs.apart, hs.below.drew⟩ (fun j hj => by
    simp only [Array.getD_eq_getD_getElem?, Array.getElem?_replicate] at hj
    split at hj <;> cases hj) hp
  simpa [hlen] using this
theorem done_pre {li li' : Array Bool} (e : li = li') (h : Any E k all f li' l L) : Done E (.loop (fun a w => wpAnyIn (fen E.rd) 0 E.P .any all.toArray (postF E.rd E.P E.R k) f li a w) :: k) l L := by subst e; exact done_loop fun a w ha hs => h.out a w ha hs
end
end Go.Proofs.YtahccegfahghfaaDoor

/-! The walker: rows of rows of whole numbers, read or one's own. -/
namespace Go.Proofs.YtahccegfahghfaaDoor
open Go Go.RowKit

/-- A row of whole numbers as an element. -/
structure IntsA where
  p : Option Addr
  n : Nat
  cap : Nat
  l : List Int
def IntsA.enc (x : IntsA) : List Value := [.slice x.p x.n x.cap]
instance : Enc IntsA := ⟨IntsA.enc, 1, fun _ => rfl, fun x v h => by simp [IntsA.enc] at h; subst h; rfl, by decide⟩
structure IntsA.Reads (w : World) (x : IntsA) : Prop where
  sv : Sv w x.p x.l
  hn : x.n = x.l.length
  hc : x.n ≤ x.cap
  hb : x.cap ≤ 9223372036854775807
section
variable {w w' w0 : World} {x : IntsA} {al : List IntsA} {T : TypeId} {Y Yi L : List Ob}
theorem IntsA.Reads.kept (h : x.Reads w) (hb : Below w.heap.size w w') : x.Reads w' := ⟨h.sv.kept hb, h.hn, h.hc, h.hb⟩
theorem SlO.facts {α : Type} [Enc α] {p : Option Addr} {n cap : Nat} {l : List α} (h : SlO T Y p n cap l) : n = l.length ∧ n ≤ cap ∧ cap ≤ 9223372036854775807 := by
  refine ⟨h.len, ?_⟩
  rcases h with ⟨_, _, h, h2, _⟩ | ⟨g, cs, _, _, _, h⟩
  · omega
  · exact ⟨h.le, h.max⟩
/-- Rows of one's own, each in a block of its own. -/
def GotR (T : TypeId) (Yi : List Ob) (al : List IntsA) : Prop := ∃ Ys : List (List Ob), Yi = Ys.flatten ∧ Ys.length = al.length ∧ ∀ (i : Nat) (Y : List Ob) (x : IntsA), Ys[i]? = some Y → al[i]? = some x → SlO T Y x.p x.n x.cap x.l
theorem GotR.nil : GotR T [] [] := ⟨[], rfl, rfl, fun i Y x h => by simp at h⟩
theorem GotR.snoc (h : GotR T Yi al) (hx : SlO T Y x.p x.n x.cap x.l) : GotR T (Yi ++ Y) (al ++ [x]) := by
  obtain ⟨Ys, rfl, hl, hs⟩ := h
  refine ⟨Ys ++ [Y], by simp, by simp [hl], fun i Z z h1 h2 => ?_⟩
  by_cases hi : i < Ys.length
  · rw [List.getElem?_append_left hi] at h1
    rw [List.getElem?_append_left (by omega)] at h2
    exact hs i Z z h1 h2
  · rw [List.getElem?_append_right (by omega)] at h1
    rw [List.getElem?_append_right (by omega)] at h2
    have hz : i - Ys.length = 0 := by
      have := (List.getElem?_eq_some_iff.1 h1).1
      simpa using this
    rw [hz] at h1
    rw [show i - al.length = 0 by omega] at h2
    simp at h1 h2
    subst h1; subst h2
    exact hx
theorem GotR.own (h : GotR T Yi al) (hx : x ∈ al) : ∃ Y, List.Sublist Y Yi ∧ SlO T Y x.p x.n x.cap x.l := by
  obtain ⟨Ys, rfl, hl, hs⟩ := h
  obtain ⟨i, hi⟩ := List.mem_iff_getElem?.1 hx
  have hil := (List.getElem?_eq_some_iff.1 hi).1
  have e : Ys[i]? = some Ys[i] := List.getElem?_eq_getElem (by omega)
  exact ⟨Ys[i], List.sublist_flatten_of_mem (List.getElem_mem _), hs i _ x e hi⟩
theorem SlO.sub {α : Type} [Enc α] {p : Option Addr} {n cap : Nat} {l : List α} (h : SlO T Y p n cap l) (hw : Hs w0 L w) (hs : List.Sublist Y L) : Sv w p l := h.at (R := []) (by rw [List.append_nil]; exact hw.sub hs)
theorem GotR.reads (h : GotR T Yi al) (hw : Hs w0 L w) (hs : List.Sublist Yi L) : ∀ x ∈ al, x.Reads w := fun x hx => by
  obtain ⟨Y, h1, h2⟩ := h.own hx
  have hf := h2.facts
  exact ⟨h2.sub hw (h1.trans hs), hf.1, hf.2.1, hf.2.2⟩
end
section
variable {E : Env} {k : List Fr} {l : Sl} {L L' : List Ob} {all os : List Oper} {i : Nat} {c : Code}
theorem Done.as (h : L = L') (hd : Done E k l L') : Done E k l L := h ▸ hd
theorem At.as (h : L = L') (hd : At E k c l L') : At E k c l L := h ▸ hd
theorem Ops.as (h : L = L') (hd : Ops E k all os i l L') : Ops E k all os i l L := h ▸ hd
theorem two_tails14 {w0 w : World} {Y X : List Ob} (h : Hs w0 (Y ++ (X ++ [])) w) : Hs w0 (Y ++ X) w := by rwa [List.append_nil] at h
theorem one_tail14 {w0 w : World} {Y : List Ob} (h : Hs w0 (Y ++ []) w) : Hs w0 Y w := by rwa [List.append_nil] at h
end
end Go.Proofs.YtahccegfahghfaaDoor

/-! Matches by paths that make one longer; plain. -/
namespace Go.Proofs.YtahccegfahghfaaDoor
open Go Go.RowKit

section
variable {β : Type} {D : List (Int × β)} {c k : Int} {v : β}
theorem mk_some : ∀ {D : List (Int × β)}, mget D c = some v → (c, v) ∈ D
  | [], h => by cases h
  | p :: D, h => by
    unfold mget at h
    split at h
    · rename_i e; cases h; rw [← e]; simp
    · exact List.mem_cons_of_mem _ (mk_some h)
theorem mk_none : ∀ {D : List (Int × β)}, mget D c = none ↔ c ∉ D.map (·.1)
  | [] => by simp [mget]
  | p :: D => by
    unfold mget
    split
    · rename_i e; subst e; simp
    · rename_i e
      rw [mk_none]
      simp only [List.map_cons, List.mem_cons, not_or]
      exact ⟨fun h => ⟨fun e2 => e e2.symm, h⟩, fun h => h.2⟩
theorem mk_mem (hn : (D.map (·.1)).Nodup) (h : (c, v) ∈ D) : mget D c = some v := by
  induction D with
  | nil => cases h
  | cons p D ih =>
    simp only [List.map_cons, List.nodup_cons] at hn
    unfold mget
    rcases List.mem_cons.1 h with e | e
    · subst e; simp
    · rw [if_neg (fun e2 => hn.1 (by rw [e2]; exact List.mem_map.2 ⟨_, e, rfl⟩)), ih hn.2 e]
theorem mu_new : ∀ {D : List (Int × β)}, mget D c = none → mupd D c v = D ++ [(c, v)]
  | [], _ => rfl
  | p :: D, h => by
    unfold mget at h
    split at h
    · cases h
    · rename_i e
      unfold mupd
      rw [if_neg e, mu_new h]; rfl
theorem mu_keys {o : β} : ∀ {D : List (Int × β)}, mget D c = some o → (mupd D c v).map (·.1) = D.map (·.1)
  | [], h => by cases h
  | p :: D, h => by
    unfold mget at h
    unfold mupd
    split at h
    · rename_i e; rw [if_pos e]; simp [e]
    · rename_i e; rw [if_neg e]; simp only [List.map_cons]; rw [mu_keys h]
theorem mu_get : ∀ {D : List (Int × β)}, mget (mupd D c v) c = some v
  | [] => by simp [mupd, mget]
  | p :: D => by
    unfold mupd
    split
    · simp [mget]
    · rename_i e; simp only [mget, if_neg e]; exact mu_get
theorem mu_get_ne (h : k ≠ c) : ∀ {D : List (Int × β)}, mget (mupd D c v) k = mget D k
  | [] => by simp [mupd, mget, Ne.symm h]
  | p :: D => by
    unfold mupd
    split
    · rename_i e
      have h2 : ¬ p.1 = k := fun e2 => h (by rw [← e2, e])
      simp [mget, h2, Ne.symm h]
    · simp only [mget]
      split
      · rfl
      · exact mu_get_ne h
theorem mu_mem {p : Int × β} : ∀ {D : List (Int × β)}, p ∈ mupd D c v → p ∈ D ∨ p = (c, v)
  | [], h => by simp only [mupd, List.mem_singleton] at h; exact .inr h
  | q :: D, h => by
    unfold mupd at h
    split at h
    · rcases List.mem_cons.1 h with e | e
      · exact .inr e
      · exact .inl (List.mem_cons_of_mem _ e)
    · rcases List.mem_cons.1 h with e | e
      · exact .inl (by rw [e]; simp)
      · exact (mu_mem e).elim (fun h => .inl (List.mem_cons_of_mem _ h)) .inr
theorem mu_nodup (hn : (D.map (·.1)).Nodup) : ((mupd D c v).map (·.1)).Nodup := by
  cases h : mget D c with
  | some o => rw [mu_keys h]; exact hn
  | none =>
    rw [mu_new h, List.map_append, List.nodup_append]
    exact ⟨hn, by simp, fun a ha b hb e => by simp at hb; subst hb; subst e; exact mk_none.1 h ha⟩
theorem mu_has (h : k ∈ D.map (·.1)) : k ∈ (mupd D c v).map (·.1) := by
  cases h2 : mget D c with
  | some o => rw [mu_keys h2]; exact h
  | none => rw [mu_new h2, List.map_append]; exact List.mem_append_left _ h
theorem mu_own : c ∈ (mupd D c v).map (·.1) := by
  have h : mget (mupd D c v) c = some v := mu_get
  exact List.mem_map.2 ⟨_, mk_some h, rfl⟩
end
/-- Whoever gives a place up for another one. -/
def givesC (g : Int → List (Int × Int) → List (Int × Bool) → List (Int × Int) × List (Int × Bool) × Bool) (i : Int) : List Int → List (Int × Int) → List (Int × Bool) → List (Int × Int) × List (Int × Bool) × Bool
  | [], D, A => (D, A, false)
  | c :: cs, D, A => if (mget A c).getD false = true then givesC g i cs D A else
    match mget D c with
    | none => (mupd D c i, mupd A c true, true)
    | some o => if (g o D (mupd A c true)).2.2 = true then (mupd (g o D (mupd A c true)).1 c i, (g o D (mupd A c true)).2.1, true) else givesC g i cs (g o D (mupd A c true)).1 (g o D (mupd A c true)).2.1
def givesV (rows : List (List Int)) : Nat → Int → List (Int × Int) → List (Int × Bool) → List (Int × Int) × List (Int × Bool) × Bool
  | 0, _, D, A => (D, A, false)
  | f + 1, i, D, A => givesC (givesV rows f) i ((rows[i.toNat]?).getD []) D A
def kuhnV (rows : List (List Int)) : Nat → Option (List (Int × Int))
  | 0 => some []
  | j + 1 => match kuhnV rows j with
    | none => none
    | some D => if (givesV rows 9 (j : Int) D []).2.2 = true then some (givesV rows 9 (j : Int) D []).1 else none
def matchV (rows : List (List Int)) : Bool := (kuhnV rows rows.length).isSome
/-- How often one has a place. -/
def cntV (D : List (Int × Int)) (r : Int) : Nat := (D.filter fun p => decide (p.2 = r)).length
def oneV (r i : Int) : Nat := if r = i then 1 else 0
theorem cnt_new {D : List (Int × Int)} {c i r : Int} : cntV (D ++ [(c, i)]) r = cntV D r + oneV r i := by
  unfold cntV oneV
  rw [List.filter_append, List.length_append]
  by_cases h : r = i
  · subst h; simp
  · rw [if_neg h, List.filter_cons_of_neg (by simpa using fun e => h e.symm)]; simp
theorem cnt_upd {c i o r : Int} : ∀ {D : List (Int × Int)}, mget D c = some o → cntV (mupd D c i) r + oneV r o = cntV D r + oneV r i
  | [], h => by cases h
  | p :: D, h => by
    unfold mget at h
    unfold mupd
    split at h
    · rename_i e
      cases h
      rw [if_pos e]
      unfold cntV oneV
      simp only [List.filter_cons]
      by_cases h1 : i = r <;> by_cases h2 : p.2 = r <;> simp [h1, h2, eq_comm] <;> omega
    · rename_i e
      rw [if_neg e]
      have ih := cnt_upd (i := i) (r := r) h
      unfold cntV at ih ⊢
      simp only [List.filter_cons]
      split <;> (try simp only [List.length_cons]) <;> omega
/-- A match so far. -/
structure WD (rows : List (List Int)) (D : List (Int × Int)) : Prop where
  nd : (D.map (·.1)).Nodup
  ok : ∀ p ∈ D, 0 ≤ p.2 ∧ ∃ row, rows[p.2.toNat]? = some row ∧ p.1 ∈ row
/-- Who has been asked. -/
structure WA (A : List (Int × Bool)) : Prop where
  nd : (A.map (·.1)).Nodup
  yes : ∀ p ∈ A, p.2 = true
  rg : ∀ p ∈ A, 0 ≤ p.1 ∧ p.1 < 8
section
variable {rows : List (List Int)} {i c r : Int} {D : List (Int × Int)} {A : List (Int × Bool)}
theorem WA.asked (h : WA A) : (mget A c).getD false = true ↔ c ∈ A.map (·.1) := by
  cases e : mget A c with
  | none => simp only [Option.getD_none, Bool.false_eq_true, false_iff]; exact mk_none.1 e
  | some b =>
    have hm := mk_some e
    have hb := h.yes _ hm
    simp only at hb
    subst hb
    simp only [Option.getD_some, true_iff]
    exact List.mem_map.2 ⟨_, hm, rfl⟩
theorem WA.put (h : WA A) (h0 : 0 ≤ c) (h1 : c < 8) : WA (mupd A c true) := ⟨mu_nodup h.nd, fun p hp => (mu_mem hp).elim (h.yes p) fun e => by rw [e], fun p hp => (mu_mem hp).elim (h.rg p) fun e => by rw [e]; exact ⟨h0, h1⟩⟩
theorem WA.putLen (h : c ∉ A.map (·.1)) : (mupd A c true).length = A.length + 1 := by rw [mu_new (mk_none.2 h)]; simp
theorem nodup_le : ∀ {l N : List Int}, l.Nodup → (∀ x ∈ l, x ∈ N) → l.length ≤ N.length
  | [], _, _, _ => Nat.zero_le _
  | a :: l, N, hn, h => by
    simp only [List.nodup_cons] at hn
    have ha := h a (by simp)
    have := nodup_le (l := l) (N := N.erase a) hn.2 fun x hx => (List.mem_erase_of_ne (fun e => hn.1 (by rw [← e]; exact hx))).2 (h x (by simp [hx]))
    rw [List.length_erase_of_mem ha] at this
    have hp : 0 < N.length := List.length_pos_of_mem ha
    simp only [List.length_cons]
    omega
theorem WA.len (h : WA A) : A.length ≤ 8 := by
  have := nodup_le (N := [0, 1, 2, 3, 4, 5, 6, 7]) h.nd fun x hx => by
    obtain ⟨p, hp, rfl⟩ := List.mem_map.1 hx
    have := h.rg p hp
    have : p.1 = 0 ∨ p.1 = 1 ∨ p.1 = 2 ∨ p.1 = 3 ∨ p.1 = 4 ∨ p.1 = 5 ∨ p.1 = 6 ∨ p.1 = 7 := by omega
    rcases this with h | h | h | h | h | h | h | h <;> rw [h] <;> simp
  simpa using this
/-- What is true of the answer. -/
structure GSpec (rows : List (List Int)) (i : Int) (cs : List Int) (D : List (Int × Int)) (A : List (Int × Bool)) (R : List (Int × Int) × List (Int × Bool) × Bool) : Prop where
  wa : WA R.2.1
  sub : ∀ c ∈ A.map (·.1), c ∈ R.2.1.map (·.1)
  wd : WD rows R.1
  keep : ∀ c ∈ A.map (·.1), mget R.1 c = mget D c
  yes : R.2.2 = true → ∀ r, cntV R.1 r = cntV D r + oneV r i
  no : R.2.2 = false → R.1 = D ∧ (∀ c ∈ cs, c ∈ R.2.1.map (·.1)) ∧ ∀ c ∈ R.2.1.map (·.1), c ∉ A.map (·.1) → ∃ o row, mget D c = some o ∧ rows[o.toNat]? = some row ∧ ∀ k ∈ row, k ∈ R.2.1.map (·.1)
theorem keys_len {A B : List (Int × Bool)} (h : WA A) (hs : ∀ c ∈ A.map (·.1), c ∈ B.map (·.1)) : A.length ≤ B.length := by
  have := nodup_le h.nd hs
  simpa using this
theorem givesC_spec {f : Nat} {row : List Int} (hrows : ∀ l ∈ rows, ∀ c ∈ l, 0 ≤ c ∧ c < 8) (hrow : rows[i.toNat]? = some row) (hi0 : 0 ≤ i)
    (hg : ∀ (o : Int) (row : List Int) (D : List (Int × Int)) (A : List (Int × Bool)), 0 ≤ o → rows[o.toNat]? = some row → WD rows D → WA A → 8 < f + A.length → GSpec rows o row D A (givesV rows f o D A)) :
    ∀ (cs : List Int) (D : List (Int × Int)) (A : List (Int × Bool)), (∀ c ∈ cs, c ∈ row) → WD rows D → WA A → 8 < f + 1 + A.length → GSpec rows i cs D A (givesC (givesV rows f) i cs D A)
  | [], D, A, _, hD, hA, _ => ⟨hA, fun _ h => h, hD, fun _ _ => rfl, fun h => (by cases h), fun _ => ⟨rfl, fun _ h => (by cases h), fun c h1 h2 => absurd h1 h2⟩⟩
  | c :: cs, D, A, hcs, hD, hA, hf => by
    have hcr := hcs c (by simp)
    have hc := hrows row (List.mem_of_getElem? hrow) c hcr
    have hcs' : ∀ k ∈ cs, k ∈ row := fun k hk => hcs k (by simp [hk])
    unfold givesC
    by_cases ha : (mget A c).getD false = true
    · rw [if_pos ha]
      have ih := givesC_spec hrows hrow hi0 hg cs D A hcs' hD hA hf
      refine ⟨ih.wa, ih.sub, ih.wd, ih.keep, ih.yes, fun h => ?_⟩
      obtain ⟨h1, h2, h3⟩ := ih.no h
      exact ⟨h1, fun k hk => by
        rcases List.mem_cons.1 hk with e | e
        · rw [e]; exact ih.sub c (hA.asked.1 ha)
        · exact h2 k e, h3⟩
    · rw [if_neg ha]
      have hca : c ∉ A.map (·.1) := fun h => ha (hA.asked.2 h)
      have hA1 := hA.put hc.1 hc.2
      have hl1 : (mupd A c true).length = A.length + 1 := WA.putLen hca
      cases hm : mget D c with
      | none =>
        refine ⟨hA1, fun k hk => mu_has hk, ⟨mu_nodup hD.nd, fun p hp => (mu_mem hp).elim (hD.ok p) fun e => by rw [e]; exact ⟨hi0, row, hrow, hcr⟩⟩, fun k hk => mu_get_ne (fun e => hca (by rw [← e]; exact hk)), fun _ r => ?_, fun h => by cases h⟩
        show cntV (mupd D c i) r = _
        rw [mu_new hm]; exact cnt_new
      | some o =>
        have ho := hD.ok _ (mk_some hm)
        obtain ⟨row2, hrow2, hc2⟩ := ho.2
        have hG := hg o row2 D (mupd A c true) ho.1 hrow2 hD hA1 (by omega)
        have hcA1 : c ∈ (mupd A c true).map (·.1) := mu_own
        simp only
        split
        · rename_i hy
          have hk2 : mget (givesV rows f o D (mupd A c true)).1 c = some o := by rw [hG.keep c hcA1, hm]
          refine ⟨hG.wa, fun k hk => hG.sub k (mu_has hk), ⟨mu_nodup hG.wd.nd, fun p hp => (mu_mem hp).elim (hG.wd.ok p) fun e => by rw [e]; exact ⟨hi0, row, hrow, hcr⟩⟩, fun k hk => ?_, fun _ r => ?_, fun h => by cases h⟩
          · show mget (mupd _ c i) k = _
            rw [mu_get_ne (fun e => hca (by rw [← e]; exact hk)), hG.keep k (mu_has hk)]
          · show cntV (mupd _ c i) r = _
            have h1 := cnt_upd (i := i) (r := r) hk2
            have h2 := hG.yes hy r
            omega
        · rename_i hy
          have hn : (givesV rows f o D (mupd A c true)).2.2 = false := by simpa using hy
          obtain ⟨g1, g2, g3⟩ := hG.no hn
          rw [g1]
          have hl2 := keys_len hA1 hG.sub
          have ih := givesC_spec hrows hrow hi0 hg cs D (givesV rows f o D (mupd A c true)).2.1 hcs' hD hG.wa (by omega)
          refine ⟨ih.wa, fun k hk => ih.sub k (hG.sub k (mu_has hk)), ih.wd, fun k hk => ih.keep k (hG.sub k (mu_has hk)), ih.yes, fun h => ?_⟩
          obtain ⟨h1, h2, h3⟩ := ih.no h
          refine ⟨h1, fun k hk => ?_, fun k hk hkA => ?_⟩
          · rcases List.mem_cons.1 hk with e | e
            · rw [e]; exact ih.sub c (hG.sub c hcA1)
            · exact h2 k e
          · by_cases hk2 : k ∈ (givesV rows f o D (mupd A c true)).2.1.map (·.1)
            · by_cases hk1 : k ∈ (mupd A c true).map (·.1)
              · have hkc : k = c := by
                  rw [mu_new (mk_none.2 hca), List.map_append] at hk1
                  rcases List.mem_append.1 hk1 with e | e
                  · exact absurd e hkA
                  · simpa using e
                subst hkc
                exact ⟨o, row2, hm, hrow2, fun z hz => ih.sub z (g2 z hz)⟩
              · obtain ⟨o2, row3, e1, e2, e3⟩ := g3 k hk2 hk1
                exact ⟨o2, row3, e1, e2, fun z hz => ih.sub z (e3 z hz)⟩
            · exact h3 k hk hk2
theorem gives_spec (hrows : ∀ l ∈ rows, ∀ c ∈ l, 0 ≤ c ∧ c < 8) : ∀ (f : Nat) (o : Int) (row : List Int) (D : List (Int × Int)) (A : List (Int × Bool)), 0 ≤ o → rows[o.toNat]? = some row → WD rows D → WA A → 8 < f + A.length → GSpec rows o row D A (givesV rows f o D A)
  | 0, _, _, _, A, _, _, _, hA, hf => by have := hA.len; omega
  | f + 1, o, row, D, A, ho, hrow, hD, hA, hf => by
    unfold givesV
    rw [hrow, Option.getD_some]
    exact givesC_spec hrows hrow ho (gives_spec hrows f) row D A (fun _ h => h) hD hA hf
/-- Each row one of its own, none twice. -/
structure Sdr (rows : List (List Int)) (m : List Int) : Prop where
  len : m.length = rows.length
  nd : m.Nodup
  own : ∀ (j : Nat) (c : Int), m[j]? = some c → ∃ row, rows[j]? = some row ∧ c ∈ row
theorem kuhn_on {j : Nat} (h : kuhnV rows (j + 1) = some D) : ∃ D0, kuhnV rows j = some D0 ∧ (givesV rows 9 (j : Int) D0 []).2.2 = true ∧ D = (givesV rows 9 (j : Int) D0 []).1 := by
  unfold kuhnV at h
  cases e : kuhnV rows j with
  | none => rw [e] at h; cases h
  | some D0 =>
    rw [e] at h
    simp only at h
    split at h
    · rename_i hy; cases h; exact ⟨D0, rfl, hy, rfl⟩
    · cases h
theorem wa_nil : WA [] := ⟨List.nodup_nil, fun _ h => (by cases h), fun _ h => (by cases h)⟩
theorem kuhn_inv (hrows : ∀ l ∈ rows, ∀ c ∈ l, 0 ≤ c ∧ c < 8) : ∀ (j : Nat) (D : List (Int × Int)), j ≤ rows.length → kuhnV rows j = some D → WD rows D ∧ ∀ r : Int, cntV D r = if 0 ≤ r ∧ r < j then 1 else 0
  | 0, D, _, h => by
    cases h
    exact ⟨⟨List.nodup_nil, fun _ h => by cases h⟩, fun r => by rw [if_neg (by omega)]; rfl⟩
  | j + 1, D, hj, h => by
    obtain ⟨D0, h0, hy, rfl⟩ := kuhn_on h
    obtain ⟨hw, hc⟩ := kuhn_inv hrows j D0 (by omega) h0
    have hrow : rows[(j : Int).toNat]? = some rows[j] := List.getElem?_eq_getElem (by omega)
    have hG := gives_spec hrows 9 (j : Int) rows[j] D0 [] (by omega) hrow hw wa_nil (by simp)
    refine ⟨hG.wd, fun r => ?_⟩
    rw [hG.yes hy r, hc r]
    unfold oneV
    by_cases e : r = (j : Int)
    · rw [if_neg (by omega), if_pos e, if_pos (by omega)]
    · by_cases e2 : 0 ≤ r ∧ r < (j : Int)
      · rw [if_pos e2, if_neg e, if_pos (by omega)]
      · rw [if_neg e2, if_neg e, if_neg (by omega)]
theorem cnt_mem {r : Int} (h : 0 < cntV D r) : ∃ c, (c, r) ∈ D := by
  obtain ⟨p, hp⟩ := List.exists_mem_of_length_pos h
  rw [List.mem_filter] at hp
  have : p.2 = r := of_decide_eq_true hp.2
  exact ⟨p.1, by rw [← this]; exact hp.1⟩
theorem match_yes (hrows : ∀ l ∈ rows, ∀ c ∈ l, 0 ≤ c ∧ c < 8) (h : matchV rows = true) : ∃ m, Sdr rows m := by
  obtain ⟨D, hD⟩ := Option.isSome_iff_exists.1 h
  obtain ⟨hw, hc⟩ := kuhn_inv hrows _ D (Nat.le_refl _) hD
  have hex : ∀ j : Nat, j < rows.length → ∃ c, (c, (j : Int)) ∈ D := fun j hj => cnt_mem (by rw [hc, if_pos (by omega)]; omega)
  let F : Nat → Int := fun j => if hj : j < rows.length then (hex j hj).choose else 0
  have hF : ∀ j, j < rows.length → (F j, (j : Int)) ∈ D := fun j hj => by
    have := (hex j hj).choose_spec
    simp only [F, dif_pos hj]; exact this
  refine ⟨(List.range rows.length).map F, by simp, ?_, fun j c hj => ?_⟩
  · refine List.pairwise_map.2 ((List.nodup_range (n := rows.length)).imp_of_mem fun {a b} ha hb hne e => hne ?_)
    have h1 := mk_mem hw.nd (hF a (List.mem_range.1 ha))
    have h2 := mk_mem hw.nd (hF b (List.mem_range.1 hb))
    rw [e, h2] at h1
    have : (b : Int) = (a : Int) := Option.some.inj h1
    omega
  · rw [List.getElem?_map] at hj
    cases e : (List.range rows.length)[j]? with
    | none => rw [e] at hj; cases hj
    | some a =>
      rw [e] at hj
      cases hj
      obtain ⟨hl, he⟩ := List.getElem?_eq_some_iff.1 e
      have hja : j = a := by simpa using he
      have hjl : a < rows.length := by rw [← hja]; simpa using hl
      obtain ⟨_, row, hrow, hcr⟩ := hw.ok _ (hF a hjl)
      exact ⟨row, by rw [hja]; simpa using hrow, hcr⟩
/-- Rows that are stuck: more of them than they have to choose from. -/
theorem kuhn_stuck (hrows : ∀ l ∈ rows, ∀ c ∈ l, 0 ≤ c ∧ c < 8) {j : Nat} (hj : j < rows.length) (h0 : kuhnV rows j = some D) (hn : (givesV rows 9 (j : Int) D []).2.2 = false) :
    ∃ (N : List Int) (R : List Nat), R.Nodup ∧ R.length = N.length + 1 ∧ ∀ r ∈ R, ∃ row, rows[r]? = some row ∧ ∀ c ∈ row, c ∈ N := by
  obtain ⟨hw, hc⟩ := kuhn_inv hrows j D (by omega) h0
  have hrow : rows[(j : Int).toNat]? = some rows[j] := List.getElem?_eq_getElem (by omega)
  have hG := gives_spec hrows 9 (j : Int) rows[j] D [] (by omega) hrow hw wa_nil (by simp)
  obtain ⟨_, h2, h3⟩ := hG.no hn
  have hN : ∀ c ∈ (givesV rows 9 (j : Int) D []).2.1.map (·.1), ∃ o row, mget D c = some o ∧ rows[o.toNat]? = some row ∧ ∀ k ∈ row, k ∈ (givesV rows 9 (j : Int) D []).2.1.map (·.1) := fun c hc => h3 c hc (by simp)
  generalize hNe : (givesV rows 9 (j : Int) D []).2.1.map (·.1) = N at *
  have hnd : N.Nodup := by rw [← hNe]; exact hG.wa.nd
  let F : Int → Nat := fun c => ((mget D c).getD 0).toNat
  refine ⟨N, j :: N.map F, ?_, by simp, fun r hr => ?_⟩
  · rw [List.nodup_cons]
    constructor
    · intro hm
      obtain ⟨c, hcN, e⟩ := List.mem_map.1 hm
      obtain ⟨o, row, e1, _, _⟩ := hN c hcN
      have ho := (hw.ok _ (mk_some e1)).1
      have hcnt := hc o
      simp only [F, e1, Option.getD_some] at e
      simp only at ho
      have hpos : 0 < cntV D o := List.length_pos_of_mem (List.mem_filter.2 ⟨mk_some e1, by simp⟩)
      rw [if_neg (by omega)] at hcnt
      omega
    · refine List.pairwise_map.2 (hnd.imp_of_mem fun {a b} ha hb hne e => hne ?_)
      obtain ⟨o, _, e1, _, _⟩ := hN a ha
      obtain ⟨o2, _, e2, _, _⟩ := hN b hb
      have ho := (hw.ok _ (mk_some e1)).1
      have ho2 := (hw.ok _ (mk_some e2)).1
      simp only [F, e1, e2, Option.getD_some] at e
      simp only at ho ho2
      have hoo : o = o2 := by omega
      subst hoo
      have hcnt := hc o
      have hle : cntV D o ≤ 1 := by rw [hcnt]; split <;> omega
      have m1 := (List.mem_filter (p := fun p : Int × Int => decide (p.2 = o))).2 ⟨mk_some e1, by simp⟩
      have m2 := (List.mem_filter (p := fun p : Int × Int => decide (p.2 = o))).2 ⟨mk_some e2, by simp⟩
      unfold cntV at hle
      match hl : D.filter (fun p => decide (p.2 = o)), hle with
      | [], _ => rw [hl] at m1; cases m1
      | [x], _ =>
        rw [hl] at m1 m2
        simp only [List.mem_singleton] at m1 m2
        rw [← m2] at m1
        exact congrArg Prod.fst m1
      | x :: y :: t, h => exact absurd h (by rw [hl]; simp)
  · rcases List.mem_cons.1 hr with e | e
    · subst e
      exact ⟨rows[r], List.getElem?_eq_getElem hj, by simpa using h2⟩
    · obtain ⟨c, hcN, e2⟩ := List.mem_map.1 e
      obtain ⟨o, row, e1, hro, hall⟩ := hN c hcN
      simp only [F, e1, Option.getD_some] at e2
      rw [← e2]
      exact ⟨row, hro, hall⟩
theorem stuck_no {N : List Int} {R : List Nat} (hR : R.Nodup) (hl : R.length = N.length + 1) (h : ∀ r ∈ R, ∃ row, rows[r]? = some row ∧ ∀ c ∈ row, c ∈ N) : ¬ ∃ m, Sdr rows m := by
  rintro ⟨m, hm⟩
  let G : Nat → Int := fun r => (m[r]?).getD 0
  have hG : ∀ r ∈ R, m[r]? = some (G r) ∧ G r ∈ N := fun r hr => by
    obtain ⟨row, h1, h2⟩ := h r hr
    have hrl : r < m.length := by rw [hm.len]; exact (List.getElem?_eq_some_iff.1 h1).1
    have e : m[r]? = some m[r] := List.getElem?_eq_getElem hrl
    have e2 : m[r]? = some (G r) := by simp only [G, e, Option.getD_some]
    obtain ⟨row2, h3, h4⟩ := hm.own r (G r) e2
    rw [h1] at h3
    cases h3
    exact ⟨e2, h2 _ h4⟩
  have := nodup_le (l := R.map G) (N := N) (List.pairwise_map.2 (hR.imp_of_mem fun {a b} ha hb hne e => hne (by
    obtain ⟨h1, _⟩ := hG a ha
    obtain ⟨h2, _⟩ := hG b hb
    rw [e] at h1
    obtain ⟨l1, e1⟩ := List.getElem?_eq_some_iff.1 h1
    obtain ⟨l2, e2⟩ := List.getElem?_eq_some_iff.1 h2
    exact (List.getElem_inj hm.nd).1 (by rw [e1, e2])))) (fun x hx => by
      obtain ⟨r, hr, rfl⟩ := List.mem_map.1 hx
      exact (hG r hr).2)
  simp only [List.length_map] at this
  omega
theorem kuhn_none : ∀ (j : Nat), kuhnV rows j = none → ∃ i D, i < j ∧ kuhnV rows i = some D ∧ (givesV rows 9 (i : Int) D []).2.2 = false
  | 0, h => by cases h
  | j + 1, h => by
    cases e : kuhnV rows j with
    | none => obtain ⟨i, D, h1, h2⟩ := kuhn_none j e; exact ⟨i, D, by omega, h2⟩
    | some D =>
      unfold kuhnV at h
      rw [e] at h
      simp only at h
      split at h
      · cases h
      · rename_i hy; exact ⟨j, D, by omega, e, by simpa using hy⟩
theorem match_stuck (hrows : ∀ l ∈ rows, ∀ c ∈ l, 0 ≤ c ∧ c < 8) (h : matchV rows = false) : ∃ (N : List Int) (R : List Nat), R.Nodup ∧ R.length = N.length + 1 ∧ ∀ r ∈ R, ∃ row, rows[r]? = some row ∧ ∀ c ∈ row, c ∈ N := by
  have hn : kuhnV rows rows.length = none := by
    unfold matchV at h
    cases e : kuhnV rows rows.length with
    | none => rfl
    | some D => rw [e] at h; cases h
  obtain ⟨i, D, hi, h0, hy⟩ := kuhn_none _ hn
  exact kuhn_stuck hrows hi h0 hy
/-- There is a match just if paths find one. -/
theorem match_iff (hrows : ∀ l ∈ rows, ∀ c ∈ l, 0 ≤ c ∧ c < 8) : matchV rows = true ↔ ∃ m, Sdr rows m := by
  constructor
  · exact match_yes hrows
  · intro hm
    cases e : matchV rows with
    | true => rfl
    | false =>
      obtain ⟨N, R, h1, h2, h3⟩ := match_stuck hrows e
      exact absurd hm (stuck_no h1 h2 h3)
end
end Go.Proofs.YtahccegfahghfaaDoor

/-! The first match; plain. -/
namespace Go.Proofs.YtahccegfahghfaaDoor
open Go Go.RowKit

/-- Places that may be taken: a beginning of a match. -/
def Beg (rows : List (List Int)) (t : List Int) : Prop := ∀ (j : Nat) (c : Int), t[j]? = some c → ∃ row, rows[j]? = some row ∧ c ∈ row
def ExM (rows : List (List Int)) (t : List Int) : Prop := ∃ m, Sdr rows m ∧ m.take t.length = t
/-- What is left to choose from when some have taken theirs. -/
def leftV (rows : List (List Int)) (t : List Int) : List (List Int) := t.map (fun c => [c]) ++ rows.drop t.length
def pickL (i : Nat) : List Int → List (List Int) → List Int → List (List Int) × List Int
  | [], L, t => (L, t)
  | c :: cs, L, t => if decide (c ∈ t) = true then pickL i cs L t else if matchV (L.set i [c]) = true then (L.set i [c], t ++ [c]) else pickL i cs (L.set i [c]) t
def greedV (rows : List (List Int)) : Nat → List (List Int) × List Int
  | 0 => (rows, [])
  | i + 1 => pickL i ((rows[i]?).getD []) (greedV rows i).1 (greedV rows i).2
def refTry (g : List Int → List Int × Bool) : List Int → List Int → List Int × Bool
  | [], _ => ([], false)
  | c :: cs, t => if decide (c ∈ t) = true then refTry g cs t else if (g (t ++ [c])).2 = true then ((g (t ++ [c])).1, true) else refTry g cs t
def refM (rows : List (List Int)) : Nat → List Int → List Int × Bool
  | 0, t => (t, true)
  | k + 1, t => refTry (refM rows k) ((rows[t.length]?).getD []) t
section
variable {rows : List (List Int)} {t m u : List Int} {c : Int} {i k : Nat}
end
end Go.Proofs.YtahccegfahghfaaDoor

/-! Rows of numbers, looked through; plain. -/
namespace Go.Proofs.YtahccegfahghfaaDoor
open Go Go.RowKit

section
variable {α : Type} {l l2 : List α} {x y : α} {j : Nat} {p : α → Prop}
theorem take_one {a : α} (hx : l[j]? = some a) : l.take (j + 1) = l.take j ++ [a] := by rw [List.take_add_one, hx]; rfl
theorem all_onT (h : ∀ y ∈ l.take j, p y) (hx : l[j]? = some x) (e : p x) : ∀ y ∈ l.take (j + 1), p y := fun y hy => by
  rw [take_one hx] at hy
  rcases List.mem_append.1 hy with h1 | h1
  · exact h y h1
  · simp only [List.mem_singleton] at h1; rw [h1]; exact e
theorem all_take0T : ∀ y ∈ l.take 0, p y := by simp
end
section
variable {l : List Int} {n k s x : Int} {j : Nat} {rows : List (List Int)} {row : List Int}
theorem shr24 (h0 : 0 ≤ x) (h1 : x < 256) : x.fdiv (2 ^ (min (24 : Int).toNat IntKind.u32.bits)) = 0 := by
  rw [show (2 : Int) ^ (min (24 : Int).toNat IntKind.u32.bits) = 16777216 from by decide, Int.fdiv_eq_ediv_of_nonneg _ (by omega)]; omega
theorem shr16 (h0 : 0 ≤ x) (h1 : x < 256) : x.fdiv (2 ^ (min (16 : Int).toNat IntKind.u32.bits)) = 0 := by
  rw [show (2 : Int) ^ (min (16 : Int).toNat IntKind.u32.bits) = 65536 from by decide, Int.fdiv_eq_ediv_of_nonneg _ (by omega)]; omega
theorem shr8 (h0 : 0 ≤ x) (h1 : x < 256) : x.fdiv (2 ^ (min (8 : Int).toNat IntKind.u32.bits)) = 0 := by
  rw [show (2 : Int) ^ (min (8 : Int).toNat IntKind.u32.bits) = 256 from by decide, Int.fdiv_eq_ediv_of_nonneg _ (by omega)]; omega
theorem and0 : andV 0 255 = 0 := by decide
theorem pop0 : Lib.pop8 0 = 0 := by decide +kernel
theorem shl_fin : ∀ n : Fin 8, IntKind.u32.wrap (1 * 2 ^ (min (n.val : Int).toNat IntKind.u32.bits)) = bitV (n.val : Int) := by decide +kernel
theorem shl_bit (h0 : 0 ≤ n) (h1 : n < 8) : IntKind.u32.wrap (1 * 2 ^ (min n.toNat IntKind.u32.bits)) = bitV n := by
  have := shl_fin ⟨n.toNat, by omega⟩
  simpa only [Int.toNat_of_nonneg h0] using this
theorem bit_zero : bitV n = 0 ↔ inB n = false := by
  by_cases h : 0 ≤ n ∧ n < 8
  · have := bit_spec h
    rw [show inB n = true from decide_eq_true h]
    constructor
    · intro e; omega
    · intro e; cases e
  · rw [bit_none h, show inB n = false from decide_eq_false h]; simp
theorem inB_of (h : ¬ bitV n = 0) : inB n = true := by
  cases e : inB n with
  | true => rfl
  | false => exact absurd (bit_zero.2 e) h
/-- A set of numbers, and why it is none. -/
def ofS (l : List Int) : Int := if l.all inB = true then setV l else 0
def ofE (l : List Int) : Int := if l.all inB = true then 0 else 2
theorem of_yes (h : l.all inB = true) : ofS l = setV l ∧ ofE l = 0 := ⟨if_pos h, if_pos h⟩
theorem of_no (h : l.all inB = false) : ofS l = 0 ∧ ofE l = 2 := ⟨if_neg (by simp [h]), if_neg (by simp [h])⟩
theorem all_inB : l.all inB = true ↔ ∀ x ∈ l, 0 ≤ x ∧ x < 8 := by
  rw [List.all_eq_true]
  exact forall_congr' fun x => forall_congr' fun _ => by unfold inB; simp
theorem all_yes (h : ∀ x ∈ l, inB x = true) : l.all inB = true := List.all_eq_true.2 h
theorem all_no (hx : n ∈ l) (h : inB n = false) : l.all inB = false := by
  cases e : l.all inB with
  | false => rfl
  | true => rw [List.all_eq_true.1 e n hx] at h; cases h
theorem set_onT (hs : s = setV (l.take j)) (hx : l[j]? = some n) : orV s (bitV n) = setV (l.take (j + 1)) := by rw [take_one hx, set_on, hs]
theorem mem_onT (h : ∀ t y, t < j → l[t]? = some y → ¬ y = k) (hx : l[j]? = some n) (e : ¬ n = k) : ∀ t y, t < j + 1 → l[t]? = some y → ¬ y = k := fun t y ht hy => by
  by_cases htj : t = j
  · subst htj; rw [hx] at hy; cases hy; exact e
  · exact h t y (by omega) hy
theorem idx_yes (h : ¬ idxF (fun y => decide (y = k)) l ≥ 0) : decide (k ∈ l) = false := decide_eq_false fun hk => by
  rcases idxF_cases (fun y => decide (y = k)) l with ⟨_, h2⟩ | ⟨i, x, h2, _, _, _⟩
  · have := h2 k hk; simp at this
  · rw [h2] at h; omega
theorem idx_no (h : idxF (fun y => decide (y = k)) l ≥ 0) : decide (k ∈ l) = true := decide_eq_true (by
  rcases idxF_cases (fun y => decide (y = k)) l with ⟨h1, _⟩ | ⟨i, x, _, h2, h3, _⟩
  · rw [h1] at h; omega
  · have : x = k := of_decide_eq_true h3
    rw [← this]; exact List.mem_of_getElem? h2)
theorem cho_bad (hr : row ∈ rows) (h : rowB row = false) : choB rows = false := by
  unfold choB
  rw [show rows.all rowB = false from List.all_eq_false.2 ⟨row, hr, by simp [h]⟩]; rfl
theorem cho_end {al : List IntsA} (h : ∀ y ∈ al.take j, rowB y.l = true) (hj : al.length ≤ j) : choB (al.map IntsA.l) = decide (al.length ≤ 8) := by
  rw [List.take_of_length_le hj] at h
  unfold choB
  rw [show (al.map IntsA.l).all rowB = true from List.all_eq_true.2 fun r hr => by obtain ⟨y, hy, rfl⟩ := List.mem_map.1 hr; exact h y hy]
  simp
theorem mem_row {al : List IntsA} {x : IntsA} (hx : al[j]? = some x) : x.l ∈ al.map IntsA.l := List.mem_map.2 ⟨x, List.mem_of_getElem? hx, rfl⟩
/-- Few rows, few in each. -/
def fewV (rows : List (List Int)) : List (List Int) := (rows.take 9).map (·.take 9)
theorem row_nall (h : l.all inB = false) : rowB l = false := by simp [rowB, h]
theorem row_pyes (h : l.all inB = true) (e : Lib.pop8 (setV l) = (l.length : Int)) : rowB l = true := by rw [row_pop (all_inB.1 h)]; exact decide_eq_true e
theorem row_pno (h : l.all inB = true) (e : ¬ Lib.pop8 (setV l) = (l.length : Int)) : rowB l = false := by rw [row_pop (all_inB.1 h)]; exact decide_eq_false e
end
end Go.Proofs.YtahccegfahghfaaDoor

/-! Paths, step by step; plain. -/
namespace Go.Proofs.YtahccegfahghfaaDoor
open Go Go.RowKit

section
variable {g : Int → List (Int × Int) → List (Int × Bool) → List (Int × Int) × List (Int × Bool) × Bool} {i c o : Int} {cs l row : List Int} {D : List (Int × Int)} {A : List (Int × Bool)} {rows : List (List Int)} {f j : Nat}
theorem gc_asked (h : (mget A c).getD false = true) : givesC g i (c :: cs) D A = givesC g i cs D A := by rw [givesC, if_pos h]
theorem gc_free (h : (mget A c).getD false = false) (hm : mget D c = none) : givesC g i (c :: cs) D A = (mupd D c i, mupd A c true, true) := by rw [givesC, if_neg (by simp [h]), hm]
theorem gc_yes (h : (mget A c).getD false = false) (hm : mget D c = some o) (hy : (g o D (mupd A c true)).2.2 = true) : givesC g i (c :: cs) D A = (mupd (g o D (mupd A c true)).1 c i, (g o D (mupd A c true)).2.1, true) := by
  rw [givesC, if_neg (by simp [h]), hm]; simp only [hy, if_true]
theorem gc_no (h : (mget A c).getD false = false) (hm : mget D c = some o) (hy : (g o D (mupd A c true)).2.2 = false) : givesC g i (c :: cs) D A = givesC g i cs (g o D (mupd A c true)).1 (g o D (mupd A c true)).2.1 := by
  rw [givesC, if_neg (by simp [h]), hm]; simp only [hy, Bool.false_eq_true, if_false]
theorem gc_nil : givesC g i [] D A = (D, A, false) := by rw [givesC]
theorem drop_at (h : l[j]? = some c) : l.drop j = c :: l.drop (j + 1) := by
  obtain ⟨h1, h2⟩ := List.getElem?_eq_some_iff.1 h
  rw [List.drop_eq_getElem_cons h1, h2]
theorem gv_row (h : rows[i.toNat]? = some row) : givesC (givesV rows f) i row D A = givesV rows (f + 1) i D A := by rw [givesV, h]; rfl
theorem row_at {al : List IntsA} {x : IntsA} {n : Nat} (hrw : al.map IntsA.l = rows) (h : al[n]? = some x) : rows[n]? = some x.l := by rw [← hrw, List.getElem?_map, h]; rfl
theorem some_getD {o : Option Int} (h : o.isSome = true) : o = some (o.getD 0) := by cases o with
  | none => cases h
  | some v => rfl
theorem none_of {o : Option Int} (h : o.isSome = false) : o = none := by cases o with
  | none => rfl
  | some v => cases h
theorem not_asked (hA : WA A) (h : (mget A c).getD false = false) : c ∉ A.map (·.1) := fun hm => by rw [hA.asked.2 hm] at h; cases h
/-- What is known ahead of asking another one. -/
theorem ask_ready {al : List IntsA} {m : Nat} (hrw : al.map IntsA.l = rows) (hma : m = al.length) (hrows : ∀ l ∈ rows, ∀ c ∈ l, 0 ≤ c ∧ c < 8) (hD : WD rows D) (hA : WA A) (hf : 8 < f + 1 + A.length) (hc0 : 0 ≤ c ∧ c < 8) (ha : (mget A c).getD false = false) (hm : mget D c = some o) :
    0 ≤ o ∧ o < m ∧ WA (mupd A c true) ∧ 8 < f + (mupd A c true).length ∧ WD rows (givesV rows f o D (mupd A c true)).1 ∧ WA (givesV rows f o D (mupd A c true)).2.1 ∧ 8 < f + 1 + (givesV rows f o D (mupd A c true)).2.1.length := by
  have h1 := hD.ok _ (mk_some hm)
  obtain ⟨row, hr, _⟩ := h1.2
  have hl := (List.getElem?_eq_some_iff.1 hr).1
  have hlen : rows.length = al.length := by rw [← hrw]; simp
  have hA1 := hA.put hc0.1 hc0.2
  have hl1 := WA.putLen (not_asked hA ha)
  have hG := gives_spec hrows f o row D (mupd A c true) h1.1 hr hD hA1 (by omega)
  have hk := keys_len hA1 hG.sub
  exact ⟨h1.1, by simp only at hl h1; omega, hA1, by omega, hG.wd, hG.wa, by omega⟩
theorem kuhn_next (h : kuhnV rows j = some D) (hy : (givesV rows 9 (j : Int) D []).2.2 = true) : kuhnV rows (j + 1) = some (givesV rows 9 (j : Int) D []).1 := by rw [kuhnV, h]; simp only [hy, if_true]
theorem kuhn_stop (h : kuhnV rows j = some D) (hy : (givesV rows 9 (j : Int) D []).2.2 = false) : kuhnV rows (j + 1) = none := by rw [kuhnV, h]; simp only [hy, Bool.false_eq_true, if_false]
theorem kuhn_dead (h : kuhnV rows j = none) : ∀ d, kuhnV rows (j + d) = none
  | 0 => h
  | d + 1 => by rw [← Nat.add_assoc, kuhnV, kuhn_dead h d]
theorem match_no (h : kuhnV rows j = some D) (hy : (givesV rows 9 (j : Int) D []).2.2 = false) (hj : j < rows.length) : matchV rows = false := by
  have := kuhn_dead (kuhn_stop h hy) (rows.length - (j + 1))
  rw [show j + 1 + (rows.length - (j + 1)) = rows.length by omega] at this
  rw [matchV, this]; rfl
theorem match_all (h : kuhnV rows j = some D) (hj : j = rows.length) : matchV rows = true := by
  subst hj; rw [matchV, h]; rfl
end
end Go.Proofs.YtahccegfahghfaaDoor

/-! The first match, step by step; plain. -/
namespace Go.Proofs.YtahccegfahghfaaDoor
open Go Go.RowKit

section
variable {g : List Int → List Int × Bool} {rows L : List (List Int)} {t cs row ol : List Int} {c : Int} {i j k : Nat}
theorem pk_in (h : decide (c ∈ t) = true) : pickL i (c :: cs) L t = pickL i cs L t := by rw [pickL, if_pos h]
theorem pk_yes (h : decide (c ∈ t) = false) (hy : matchV (L.set i [c]) = true) : pickL i (c :: cs) L t = (L.set i [c], t ++ [c]) := by rw [pickL, if_neg (by simp [h]), if_pos hy]
theorem pk_no (h : decide (c ∈ t) = false) (hy : matchV (L.set i [c]) = false) : pickL i (c :: cs) L t = pickL i cs (L.set i [c]) t := by rw [pickL, if_neg (by simp [h]), if_neg (by simp [hy])]
theorem pk_nil : pickL i [] L t = (L, t) := by rw [pickL]
theorem greed_row (h : rows[i]? = some row) (hg : greedV rows i = (L, t)) : pickL i row L t = greedV rows (i + 1) := by rw [greedV, h, hg]; rfl
theorem rows_set (hr : ∀ l ∈ L, ∀ c ∈ l, 0 ≤ c ∧ c < 8) (hc : 0 ≤ c ∧ c < 8) : ∀ l ∈ L.set i [c], ∀ c ∈ l, 0 ≤ c ∧ c < 8 := fun l hl x hx => by
  rcases List.mem_or_eq_of_mem_set hl with h | h
  · exact hr l h x hx
  · subst h; simp only [List.mem_singleton] at hx; subst hx; exact hc
/-- What a match answers. -/
def matchA (rows : List (List Int)) : List Int × Bool := if choB rows = true ∧ matchV rows = true then ((greedV rows rows.length).2, true) else ([], false)
theorem ma_bad (h : choB rows = false) : matchA rows = ([], false) := if_neg (by simp [h])
theorem ma_no (h : matchV rows = false) : matchA rows = ([], false) := if_neg (by simp [h])
theorem ma_yes (h : choB rows = true) (hm : matchV rows = true) : matchA rows = ((greedV rows rows.length).2, true) := if_pos ⟨h, hm⟩
/-- Rows of which some are one's own. -/
def InnP (T : TypeId) (w0 : World) (Yi : List Ob) (ll : List IntsA) : Prop := ∀ x ∈ ll, x.Reads w0 ∨ ∃ Y, List.Sublist Y Yi ∧ SlO T Y x.p x.n x.cap x.l
variable {T : TypeId} {w w0 : World} {Y Yi Lb : List Ob} {ll : List IntsA} {y : IntsA}
theorem InnP.start (h : ∀ x ∈ ll, x.Reads w0) : InnP T w0 [] ll := fun x hx => .inl (h x hx)
theorem InnP.set (h : InnP T w0 Yi ll) (hy : SlO T Y y.p y.n y.cap y.l) : InnP T w0 (Y ++ Yi) (ll.set i y) := fun x hx => by
  rcases List.mem_or_eq_of_mem_set hx with e | e
  · exact (h x e).imp id fun ⟨Z, h1, h2⟩ => ⟨Z, h1.trans (List.sublist_append_right _ _), h2⟩
  · subst e; exact .inr ⟨Y, List.sublist_append_left _ _, hy⟩
theorem InnP.reads (h : InnP T w0 Yi ll) (hw : Hs w0 Lb w) (hs : List.Sublist Yi Lb) : ∀ x ∈ ll, x.Reads w := fun x hx => by
  rcases h x hx with e | ⟨Z, h1, h2⟩
  · exact e.kept hw.below
  · have hf := h2.facts
    exact ⟨h2.sub hw (h1.trans hs), hf.1, hf.2.1, hf.2.2⟩
end
end Go.Proofs.YtahccegfahghfaaDoor

/-! Rows by rising keys: plain laws. -/
namespace Go.Proofs.YtahccegfahghfaaDoor
open Go Go.RowKit

/-- Keys rise. -/
def Ris {α : Type} (f : α → Int) (l : List α) : Prop := l.Pairwise fun x y => f x < f y
/-- The same, asked pair by pair. -/
def risK {α : Type} (f : α → Int) : List α → Bool
  | [] => true
  | [_] => true
  | x :: y :: l => decide (f x < f y) && risK f (y :: l)
def getK {α : Type} (f : α → Int) (l : List α) (k : Int) : Option α := l.find? fun x => decide (f x = k)
section
variable {α : Type} {f : α → Int} {l l' : List α} {x y z : α} {k : Int} {i j n : Nat}
theorem Ris.at (h : Ris f l) (hij : i < j) (hx : l[i]? = some x) (hy : l[j]? = some y) : f x < f y := by
  obtain ⟨h1, e1⟩ := List.getElem?_eq_some_iff.1 hx
  obtain ⟨h2, e2⟩ := List.getElem?_eq_some_iff.1 hy
  have := List.pairwise_iff_getElem.1 h i j h1 h2 hij
  rwa [e1, e2] at this
theorem Ris.inj (h : Ris f l) (hx : x ∈ l) (hy : y ∈ l) (e : f x = f y) : x = y := by
  obtain ⟨i, hi⟩ := List.mem_iff_getElem?.1 hx
  obtain ⟨j, hj⟩ := List.mem_iff_getElem?.1 hy
  rcases Nat.lt_trichotomy i j with h1 | h1 | h1
  · have := h.at h1 hi hj; omega
  · subst h1; rw [hi] at hj; exact Option.some.inj hj
  · have := h.at h1 hj hi; omega
/-- One more, put where it belongs. -/
def insK (f : α → Int) (l : List α) (z : α) : List α := l.take (posK f l (f z)) ++ [z] ++ l.drop (posK f l (f z))
/-- One in the place of another. -/
def putK (f : α → Int) (l : List α) (z : α) : List α := l.set (posK f l (f z)) z
/-- One left out. -/
def delK (f : α → Int) (l : List α) (k : Int) : List α := l.take (posK f l k) ++ l.drop (posK f l k + 1)
theorem Ris.filter (h : Ris f l) (p : α → Bool) : Ris f (l.filter p) := List.Pairwise.filter _ h
/-- Rows by rising keys are told by what is in them. -/
theorem ris_ext : ∀ {l l' : List α}, Ris f l → Ris f l' → (∀ x, x ∈ l ↔ x ∈ l') → l = l'
  | [], [], _, _, _ => rfl
  | [], b :: l', _, _, h => by have := (h b).2 (List.mem_cons_self ..); cases this
  | a :: l, [], _, _, h => by have := (h a).1 (List.mem_cons_self ..); cases this
  | a :: l, b :: l', h1, h2, h => by
    have p1 := List.pairwise_cons.1 h1
    have p2 := List.pairwise_cons.1 h2
    have e : a = b := by
      rcases List.mem_cons.1 ((h a).1 (List.mem_cons_self ..)) with e | ha
      · exact e
      · rcases List.mem_cons.1 ((h b).2 (List.mem_cons_self ..)) with e | hb
        · exact e.symm
        · have := p2.1 a ha; have := p1.1 b hb; omega
    subst e
    congr 1
    refine ris_ext p1.2 p2.2 fun x => ?_
    constructor
    · intro hx
      rcases List.mem_cons.1 ((h x).1 (List.mem_cons_of_mem _ hx)) with e | hx'
      · subst e; have := p1.1 x hx; omega
      · exact hx'
    · intro hx
      rcases List.mem_cons.1 ((h x).2 (List.mem_cons_of_mem _ hx)) with e | hx'
      · subst e; have := p2.1 x hx; omega
      · exact hx'
/-- Rows whose keys are between bounds are no more than there are keys. -/
theorem risK_len : ∀ (l : List α) (lo hi : Int), Ris f l → (∀ x ∈ l, lo ≤ f x ∧ f x ≤ hi) → lo ≤ hi + 1 → (l.length : Int) ≤ hi - lo + 1
  | [], lo, hi, _, _, h => by simp; omega
  | a :: l, lo, hi, h, hb, hlh => by
    have p := List.pairwise_cons.1 h
    have ha := hb a (List.mem_cons_self ..)
    have := risK_len l (f a + 1) hi p.2 (fun x hx => ⟨by have := p.1 x hx; omega, (hb x (List.mem_cons_of_mem _ hx)).2⟩) (by omega)
    simp only [List.length_cons]; omega
end
end Go.Proofs.YtahccegfahghfaaDoor

/-! Sets as rows of numbers; the fewest sets that are stuck; plain. -/
namespace Go.Proofs.YtahccegfahghfaaDoor
open Go Go.RowKit
/-- A set's numbers, rising. -/
def listI (s : Int) : List Int := ([0, 1, 2, 3, 4, 5, 6, 7] : List Int).filter fun c => hasV s c
/-- The set of all of some sets. -/
def unionL (ms : List Int) (q : List Int) : Int := q.foldl (fun a i => orV a (ms.getD i.toNat 0)) 0
/-- These sets are stuck: they have fewer numbers than they are. -/
def stk (ms q : List Int) : Bool := decide (Lib.pop8 (unionL ms q) < (q.length : Int))
/-- Places, rising. -/
structure Pl (n : Nat) (q : List Int) : Prop where
  ris : q.Pairwise (· < ·)
  bnd : ∀ i ∈ q, 0 ≤ i ∧ i < (n : Int)
/-- One row of numbers stands ahead of another one. -/
def lexB : List Int → List Int → Bool
  | [], [] => false
  | [], _ :: _ => true
  | _ :: _, [] => false
  | a :: s, b :: t => if a < b then true else if b < a then false else lexB s t
/-- Fewer, or as many and ahead. -/
def better (q r : List Int) : Bool := decide (q.length < r.length) || (decide (q.length = r.length) && lexB q r)
/-- The places of the fewest sets that are stuck; none: there are none. -/
def Best (ms r : List Int) : Prop := (r = [] ∧ ∀ q, Pl ms.length q → stk ms q = false) ∨ (Pl ms.length r ∧ stk ms r = true ∧ ∀ q, Pl ms.length q → stk ms q = true → better q r = false)
def rightM (ms : List Int) : Bool := ms.all (fun s => decide (s < 256)) && decide (ms.length ≤ 8)
theorem list_fin : ∀ s : Fin 256, (s.val ≠ 0 → 0 ≤ andV (s.val : Int) ((s.val : Int) - 1) ∧ andV (s.val : Int) ((s.val : Int) - 1) < (s.val : Int) ∧ listI (s.val : Int) = (Lib.ctz 32 s.val : Int) :: listI (andV (s.val : Int) ((s.val : Int) - 1))) ∧ ((listI (s.val : Int)).length : Int) = Lib.pop8 (s.val : Int) := by decide +kernel
theorem up_fin : ∀ s : Fin 256, ∀ n : Fin 9, (∀ c ∈ listI (s.val : Int), c < (n.val : Int)) ↔ s.val < 2 ^ n.val := by decide +kernel
section
variable {s a b c : Int} {q r l ms bb : List Int} {n k : Nat}
theorem listI_zero : listI 0 = [] := by decide +kernel
theorem list_spec (h0 : 0 < s) (h1 : s < 256) : 0 ≤ andV s (s - 1) ∧ andV s (s - 1) < s ∧ listI s = (Lib.ctz 32 s.toNat : Int) :: listI (andV s (s - 1)) := by
  have := (list_fin ⟨s.toNat, by omega⟩).1 (by show s.toNat ≠ 0; omega)
  simpa only [Int.toNat_of_nonneg (show 0 ≤ s by omega)] using this
theorem list_len (h0 : 0 ≤ s) (h1 : s < 256) : ((listI s).length : Int) = Lib.pop8 s := by
  have := (list_fin ⟨s.toNat, by omega⟩).2
  simpa only [Int.toNat_of_nonneg h0] using this
theorem list_up (h0 : 0 ≤ s) (h1 : s < 256) (hn : n ≤ 8) : (∀ c ∈ listI s, c < (n : Int)) ↔ s < 2 ^ n := by
  have := up_fin ⟨s.toNat, by omega⟩ ⟨n, by omega⟩
  simp only [Int.toNat_of_nonneg h0] at this
  rw [this]
  constructor
  · intro h
    have h2 : ((s.toNat : Nat) : Int) < ((2 ^ n : Nat) : Int) := Int.ofNat_lt.2 h
    rw [Int.toNat_of_nonneg h0] at h2
    simpa using h2
  · intro h
    have h2 : ((s.toNat : Nat) : Int) < ((2 ^ n : Nat) : Int) := by rw [Int.toNat_of_nonneg h0]; simpa using h
    exact Int.ofNat_lt.1 h2
theorem mem_list : c ∈ listI s ↔ (0 ≤ c ∧ c < 8) ∧ hasV s c = true := by
  unfold listI
  rw [List.mem_filter]
  simp only [List.mem_cons, List.not_mem_nil, or_false]
  constructor
  · rintro ⟨h, h2⟩; exact ⟨by omega, h2⟩
  · rintro ⟨h, h2⟩; exact ⟨by omega, h2⟩
theorem list_ris : (listI s).Pairwise (· < ·) := List.Pairwise.filter _ (by decide)
theorem list_pl (h0 : 0 ≤ s) (h1 : s < 256) (hn : n ≤ 8) (h : s < 2 ^ n) : Pl n (listI s) := ⟨list_ris, fun i hi => ⟨(mem_list.1 hi).1.1, (list_up h0 h1 hn).2 h i hi⟩⟩
theorem ris_same (h1 : q.Pairwise (· < ·)) (h2 : r.Pairwise (· < ·)) (h : ∀ c, c ∈ q ↔ c ∈ r) : q = r := ris_ext (f := fun x : Int => x) h1 h2 h
/-- Each row of places is told by a number. -/
theorem pl_num (h : Pl n q) (hn : n ≤ 8) : ∃ s, 0 ≤ s ∧ s < 256 ∧ s < 2 ^ n ∧ listI s = q := by
  have hb : ∀ x ∈ q, 0 ≤ x ∧ x < 8 := fun x hx => by have := h.bnd x hx; omega
  obtain ⟨h0, h1, h2⟩ := set_spec q hb
  have e : listI (setV q) = q := ris_same list_ris h.ris fun c => by
    rw [mem_list]
    constructor
    · rintro ⟨h3, h4⟩; rw [h2 c h3] at h4; exact of_decide_eq_true h4
    · intro hc; exact ⟨hb c hc, by rw [h2 c (hb c hc)]; exact decide_eq_true hc⟩
  exact ⟨setV q, h0, h1, (list_up h0 h1 hn).1 (by rw [e]; exact fun c hc => (h.bnd c hc).2), e⟩
-- sets put together
theorem or_nat (h0 : 0 ≤ a) (h1 : a < 256) (h2 : 0 ≤ b) (h3 : b < 256) : orV a b = ((a.toNat ||| b.toNat : Nat) : Int) ∧ (a.toNat ||| b.toNat) < 256 := by
  have h : (a.toNat ||| b.toNat) < 2 ^ 8 := Nat.or_lt_two_pow (by omega) (by omega)
  have e1 : a % 4294967296 = a := Int.emod_eq_of_lt h0 (by omega)
  have e2 : b % 4294967296 = b := Int.emod_eq_of_lt h2 (by omega)
  refine ⟨?_, h⟩
  unfold orV
  rw [e1, e2, IntKind.wrap_u32]
  exact Int.emod_eq_of_lt (by omega) (by omega)
theorem has_test (h0 : 0 ≤ s) (hc : 0 ≤ c) : hasV s c = s.toNat.testBit c.toNat := by
  unfold hasV
  rw [Nat.testBit_eq_decide_div_mod_eq]
  refine decide_eq_decide.2 ?_
  have e : s = ((s.toNat : Nat) : Int) := (Int.toNat_of_nonneg h0).symm
  have e2 : s / 2 ^ c.toNat % 2 = ((s.toNat / 2 ^ c.toNat % 2 : Nat) : Int) := by
    conv => lhs; rw [e]
    simp
  rw [e2]; omega
theorem or_all (h0 : 0 ≤ a) (h1 : a < 256) (h2 : 0 ≤ b) (h3 : b < 256) : 0 ≤ orV a b ∧ orV a b < 256 ∧ ∀ c, c ∈ listI (orV a b) ↔ c ∈ listI a ∨ c ∈ listI b := by
  obtain ⟨e, h⟩ := or_nat h0 h1 h2 h3
  refine ⟨by omega, by omega, fun c => ?_⟩
  simp only [mem_list]
  by_cases hc : 0 ≤ c ∧ c < 8
  · rw [has_test (by omega) hc.1, has_test h0 hc.1, has_test h2 hc.1, e, Int.toNat_natCast, Nat.testBit_or, Bool.or_eq_true]
    simp only [hc, true_and, and_self]
  · simp only [hc, false_and, or_self]
theorem union_on : unionL ms (q ++ [c]) = orV (unionL ms q) (ms.getD c.toNat 0) := by unfold unionL; rw [List.foldl_append]; rfl
theorem get_right (hm : ∀ s ∈ ms, 0 ≤ s ∧ s < 256) (i : Nat) : 0 ≤ ms.getD i 0 ∧ ms.getD i 0 < 256 := by
  rw [List.getD_eq_getElem?_getD]
  cases h : ms[i]? with
  | none => exact ⟨by decide, by decide⟩
  | some s => exact hm s (List.mem_of_getElem? h)
theorem union_spec (hm : ∀ s ∈ ms, 0 ≤ s ∧ s < 256) (q : List Int) : 0 ≤ unionL ms q ∧ unionL ms q < 256 ∧ ∀ c, c ∈ listI (unionL ms q) ↔ ∃ i ∈ q, c ∈ listI (ms.getD i.toNat 0) := by
  refine set_ind (fun q => 0 ≤ unionL ms q ∧ unionL ms q < 256 ∧ ∀ c, c ∈ listI (unionL ms q) ↔ ∃ i ∈ q, c ∈ listI (ms.getD i.toNat 0)) ?_ (fun l r ih => ?_) q
  · refine ⟨Int.le_refl 0, (by show (0 : Int) < 256; decide), fun c => ?_⟩
    rw [show unionL ms [] = 0 from rfl, listI_zero]; simp
  · have hg := get_right hm r.toNat
    have ho := or_all ih.1 ih.2.1 hg.1 hg.2
    rw [union_on]
    refine ⟨ho.1, ho.2.1, fun c => ?_⟩
    rw [ho.2.2 c, ih.2.2 c]
    constructor
    · rintro (⟨i, h1, h2⟩ | h)
      · exact ⟨i, List.mem_append_left _ h1, h2⟩
      · exact ⟨r, by simp, h⟩
    · rintro ⟨i, h1, h2⟩
      rcases List.mem_append.1 h1 with h | h
      · exact .inl ⟨i, h, h2⟩
      · rw [List.mem_singleton] at h; subst h; exact .inr h2
-- which stands ahead
theorem lex_self : ∀ l : List Int, lexB l l = false
  | [] => rfl
  | a :: l => by rw [lexB, if_neg (Int.lt_irrefl a), if_neg (Int.lt_irrefl a)]; exact lex_self l
theorem lex_trans : ∀ {q r l : List Int}, lexB q r = true → lexB r l = true → lexB q l = true
  | [], [], _, h, _ => by cases h
  | [], _ :: _, [], _, h => by cases h
  | [], _ :: _, _ :: _, _, _ => rfl
  | _ :: _, [], _, h, _ => by cases h
  | _ :: _, _ :: _, [], _, h => by cases h
  | a :: s, b :: t, c :: u, h1, h2 => by
    rw [lexB] at h1 h2 ⊢
    by_cases e1 : a < b
    · by_cases e3 : c < b
      · rw [if_neg (show ¬ b < c by omega), if_pos e3] at h2; cases h2
      · rw [if_pos (show a < c by omega)]
    · by_cases e2 : b < a
      · rw [if_neg e1, if_pos e2] at h1; cases h1
      · rw [if_neg e1, if_neg e2] at h1
        have : a = b := by omega
        subst this
        by_cases e3 : a < c
        · rw [if_pos e3]
        · by_cases e4 : c < a
          · rw [if_neg e3, if_pos e4] at h2; cases h2
          · rw [if_neg e3, if_neg e4] at h2 ⊢
            exact lex_trans h1 h2
theorem bet_iff : better q r = true ↔ q.length < r.length ∨ (q.length = r.length ∧ lexB q r = true) := by
  unfold better
  rw [Bool.or_eq_true, Bool.and_eq_true, decide_eq_true_eq, decide_eq_true_eq]
theorem bet_no : better q r = false ↔ ¬ (q.length < r.length ∨ (q.length = r.length ∧ lexB q r = true)) := by
  rw [← bet_iff]; cases better q r <;> simp
theorem bet_trans (h1 : better q r = true) (h2 : better r l = true) : better q l = true := by
  rw [bet_iff] at h1 h2 ⊢
  rcases h1 with h1 | ⟨h1, e1⟩
  · rcases h2 with h2 | ⟨h2, _⟩
    · exact .inl (by omega)
    · exact .inl (by omega)
  · rcases h2 with h2 | ⟨h2, e2⟩
    · exact .inl (by omega)
    · exact .inr ⟨by omega, lex_trans e1 e2⟩
theorem stk_pos (h : stk ms q = true) (hm : ∀ s ∈ ms, 0 ≤ s ∧ s < 256) : 0 < q.length := by
  have := of_decide_eq_true h
  have hu := union_spec hm q
  have := (and_spec hu.1 hu.2.1).2.1
  omega
-- going through all numbers
/-- The best one of the first numbers. -/
def BestK (ms b : List Int) (k : Nat) : Prop := (b = [] ∧ ∀ s : Nat, s < k → stk ms (listI s) = false) ∨ (∃ s0 : Nat, s0 < k ∧ b = listI s0 ∧ stk ms b = true ∧ ∀ s : Nat, s < k → stk ms (listI s) = true → better (listI s) b = false)
theorem bk_zero : BestK ms [] 0 := .inl ⟨rfl, fun s h => by omega⟩
theorem bk_not (h : BestK ms bb k) (hs : stk ms (listI k) = false) : BestK ms bb (k + 1) := by
  rcases h with ⟨rfl, h⟩ | ⟨s0, h0, rfl, h1, h2⟩
  · refine .inl ⟨rfl, fun s hk => ?_⟩
    by_cases e : s = k
    · rw [e]; exact hs
    · exact h s (by omega)
  · refine .inr ⟨s0, by omega, rfl, h1, fun s hk hst => ?_⟩
    by_cases e : s = k
    · rw [e, hs] at hst; cases hst
    · exact h2 s (by omega) hst
theorem bk_keep (h : BestK ms bb k) (hne : 0 < bb.length) (hb : better (listI k) bb = false) : BestK ms bb (k + 1) := by
  rcases h with ⟨rfl, h⟩ | ⟨s0, h0, rfl, h1, h2⟩
  · exact absurd hne (by decide)
  · refine .inr ⟨s0, by omega, rfl, h1, fun s hk hst => ?_⟩
    by_cases e : s = k
    · rw [e]; exact hb
    · exact h2 s (by omega) hst
theorem bk_first (h : BestK ms [] k) (hs : stk ms (listI k) = true) : BestK ms (listI k) (k + 1) := by
  rcases h with ⟨_, h⟩ | ⟨s0, h0, e0, h1, h2⟩
  · refine .inr ⟨k, by omega, rfl, hs, fun s hk hst => ?_⟩
    by_cases e : s = k
    · rw [e, bet_no]; rintro (h3 | ⟨_, h3⟩)
      · omega
      · rw [lex_self] at h3; cases h3
    · rw [h s (by omega)] at hst; cases hst
  · rw [stk] at h1
    have h3 := of_decide_eq_true h1
    have : Lib.pop8 (unionL ms []) = 0 := by rw [show unionL ms [] = 0 from rfl]; decide +kernel
    rw [this] at h3; exact absurd h3 (by decide)
theorem bk_new (h : BestK ms bb k) (hs : stk ms (listI k) = true) (hb : better (listI k) bb = true) : BestK ms (listI k) (k + 1) := by
  rcases h with ⟨rfl, h⟩ | ⟨s0, h0, rfl, h1, h2⟩
  · exact bk_first (.inl ⟨rfl, h⟩) hs
  · refine .inr ⟨k, by omega, rfl, hs, fun s hk hst => ?_⟩
    by_cases e : s = k
    · rw [e, bet_no]; rintro (h3 | ⟨_, h3⟩)
      · omega
      · rw [lex_self] at h3; cases h3
    · cases h3 : better (listI s) (listI k) with
      | false => rfl
      | true =>
        have := h2 s (by omega) hst
        rw [bet_trans h3 hb] at this; cases this
theorem bk_best (hl : ms.length ≤ 8) (h : BestK ms bb (2 ^ ms.length)) : Best ms bb := by
  have key : ∀ q, Pl ms.length q → ∃ s : Nat, s < 2 ^ ms.length ∧ listI s = q := fun q hq => by
    obtain ⟨s, h0, _, h2, h3⟩ := pl_num hq hl
    refine ⟨s.toNat, ?_, by rw [Int.toNat_of_nonneg h0]; exact h3⟩
    have : ((s.toNat : Nat) : Int) < ((2 ^ ms.length : Nat) : Int) := by rw [Int.toNat_of_nonneg h0]; simpa using h2
    exact Int.ofNat_lt.1 this
  have p8 : 2 ^ ms.length ≤ 2 ^ 8 := Nat.pow_le_pow_right (by decide) hl
  rcases h with ⟨rfl, h⟩ | ⟨s0, h0, rfl, h1, h2⟩
  · refine .inl ⟨rfl, fun q hq => ?_⟩
    obtain ⟨s, hs, rfl⟩ := key q hq
    exact h s hs
  · refine .inr ⟨list_pl (by omega) (by omega) hl (by have : ((s0 : Nat) : Int) < ((2 ^ ms.length : Nat) : Int) := Int.ofNat_lt.2 h0; simpa using this), h1, fun q hq hst => ?_⟩
    obtain ⟨s, hs, rfl⟩ := key q hq
    exact h2 s hs hst
end
end Go.Proofs.YtahccegfahghfaaDoor

/-! The walker: more told operations on bits: and, and-not, sums that wrap. -/
namespace Go.Proofs.YtahccegfahghfaaDoor
open Go Go.RowKit
section
variable {P : Program} {ρ : Operand → Value} {T U : TypeId} {x y : Operand} {a b n : Int} {o : Oper}
def and64 (a b : Int) : Int := IntKind.u64.wrap (((a % 18446744073709551616).toNat &&& (b % 18446744073709551616).toNat : Nat) : Int)
def andI64 (a b : Int) : Int := IntKind.i64.wrap (((a % 18446744073709551616).toNat &&& (b % 18446744073709551616).toNat : Nat) : Int)
def andNotV (a b : Int) : Int := IntKind.u32.wrap (((a % 4294967296).toNat &&& (4294967295 - (b % 4294967296).toNat) : Nat) : Int)
theorem run_and64 (v : Int) (ho : o.op = .binOp .and T x y U) (hx : ρ x = .int .u64 a) (hy : ρ y = .int .u64 b) (hv : and64 a b = v) (w : World) : (execOp ρ o).run P w = .ok (.value (.int .u64 v)) w := by
  have g : (eqGuard .and T x y (.int .u64 a) (.int .u64 b)) = (pure () : Sem Unit) := by unfold eqGuard; simp
  unfold execOp
  simp only [ho, hx, hy, g]
  subst hv
  simp [binOp, Op.intBits, and64, IntKind.bits]
  have e : ((BitVec.ofInt 64 a &&& BitVec.ofInt 64 b).toNat) = ((a % 18446744073709551616).toNat &&& (b % 18446744073709551616).toNat) := by rw [BitVec.toNat_and, BitVec.toNat_ofInt, BitVec.toNat_ofInt]; rfl
  exact congrArg (fun n : Nat => IntKind.u64.wrap (n : Int)) e
theorem run_andI64 (v : Int) (ho : o.op = .binOp .and T x y U) (hx : ρ x = .int .i64 a) (hy : ρ y = .int .i64 b) (hv : andI64 a b = v) (w : World) : (execOp ρ o).run P w = .ok (.value (.int .i64 v)) w := by
  have g : (eqGuard .and T x y (.int .i64 a) (.int .i64 b)) = (pure () : Sem Unit) := by unfold eqGuard; simp
  unfold execOp
  simp only [ho, hx, hy, g]
  subst hv
  simp [binOp, Op.intBits, andI64, IntKind.bits]
  have e : ((BitVec.ofInt 64 a &&& BitVec.ofInt 64 b).toNat) = ((a % 18446744073709551616).toNat &&& (b % 18446744073709551616).toNat) := by rw [BitVec.toNat_and, BitVec.toNat_ofInt, BitVec.toNat_ofInt]; rfl
  exact congrArg (fun n : Nat => IntKind.i64.wrap (n : Int)) e
theorem run_andNot (v : Int) (ho : o.op = .binOp .andNot T x y U) (hx : ρ x = .int .u32 a) (hy : ρ y = .int .u32 b) (hv : andNotV a b = v) (w : World) : (execOp ρ o).run P w = .ok (.value (.int .u32 v)) w := by
  have g : (eqGuard .andNot T x y (.int .u32 a) (.int .u32 b)) = (pure () : Sem Unit) := by unfold eqGuard; simp
  unfold execOp
  simp only [ho, hx, hy, g]
  subst hv
  simp [binOp, Op.intBits, andNotV, IntKind.bits]
  have e : ((BitVec.ofInt 32 a &&& ~~~(BitVec.ofInt 32 b)).toNat) = ((a % 4294967296).toNat &&& (4294967295 - (b % 4294967296).toNat)) := by rw [BitVec.toNat_and, BitVec.toNat_not, BitVec.toNat_ofInt, BitVec.toNat_ofInt]; rfl
  exact congrArg (fun n : Nat => IntKind.u32.wrap (n : Int)) e
theorem run_addW {kd : IntKind} (v : Int) (ho : o.op = .binOp .add T x y U) (hx : ρ x = .int kd a) (hy : ρ y = .int kd b) (hv : kd.wrap (a + b) = v) (w : World) : (execOp ρ o).run P w = .ok (.value (.int kd v)) w := by
  have g : (eqGuard .add T x y (.int kd a) (.int kd b)) = (pure () : Sem Unit) := by unfold eqGuard; simp
  unfold execOp
  simp only [ho, hx, hy, g]
  subst hv
  simp [binOp, Op.intArith]
end
end Go.Proofs.YtahccegfahghfaaDoor

/-! Sets that are stuck: Hall; what the document goes through; the bits' arithmetic; plain. -/
namespace Go.Proofs.YtahccegfahghfaaDoor
open Go Go.RowKit
/-- A set, as an element. -/
structure CpuA where
  s : Int
def CpuA.enc (x : CpuA) : List Value := [.int .u32 x.s]
instance : Enc CpuA := ⟨CpuA.enc, 1, fun _ => rfl, fun x v h => by simp [CpuA.enc] at h; subst h; rfl, by decide⟩
/-- Rows of sets, as an element. -/
structure MasksA where
  p : Option Addr
  n : Nat
  cap : Nat
  l : List CpuA
def MasksA.enc (x : MasksA) : List Value := [.slice x.p x.n x.cap]
instance : Enc MasksA := ⟨MasksA.enc, 1, fun _ => rfl, fun x v h => by simp [MasksA.enc] at h; subst h; rfl, by decide⟩
def CpuA.Good (x : CpuA) : Prop := 0 ≤ x.s ∧ x.s < 4294967296
structure MasksA.Reads (w : World) (x : MasksA) : Prop where
  sv : Sv w x.p x.l
  hn : x.n = x.l.length
  hc : x.n ≤ x.cap
  hb : x.cap ≤ 9223372036854775807
  hi : ∀ y ∈ x.l, y.Good
def fromV (p : List Int) : Int := (p.getLast?.map (· + 1)).getD 0
/-- What is found behind some places. -/
def StkF (ms p : List Int) (many : Nat) (r : List Int) : Prop := (r = [] ∧ ∀ q, Pl ms.length q → p <+: q → q.length = many → stk ms q = false) ∨ (Pl ms.length r ∧ p <+: r ∧ r.length = many ∧ stk ms r = true ∧ ∀ q, Pl ms.length q → p <+: q → q.length = many → stk ms q = true → lexB q r = false)
/-- None so few are stuck. -/
def LowN (ms : List Int) (m : Nat) : Prop := ∀ q, Pl ms.length q → stk ms q = true → m ≤ q.length
section
variable {s c i : Int} {p q r l ms : List Int} {n k j many : Nat} {al : List CpuA} {x : CpuA}
theorem all_right (h : rightM ms = true) (h0 : ∀ s ∈ ms, 0 ≤ s) : (∀ s ∈ ms, 0 ≤ s ∧ s < 256) ∧ ms.length ≤ 8 := by
  unfold rightM at h
  rw [Bool.and_eq_true, List.all_eq_true, decide_eq_true_eq] at h
  exact ⟨fun s hs => ⟨h0 s hs, of_decide_eq_true (h.1 s hs)⟩, h.2⟩
theorem rm_bad (hx : (al.map CpuA.s)[j]? = some s) (h : ¬ s < 256) : rightM (al.map CpuA.s) = false := by
  unfold rightM
  rw [Bool.and_eq_false_iff]
  refine .inl ?_
  cases e : (al.map CpuA.s).all fun s => decide (s < 256) with
  | false => rfl
  | true => exact absurd (of_decide_eq_true (List.all_eq_true.1 e s (List.mem_of_getElem? hx))) h
theorem rm_end (h : ∀ y ∈ al.take j, y.s < 256) (hj : al.length ≤ j) : rightM (al.map CpuA.s) = decide (al.length ≤ 8) := by
  unfold rightM
  rw [List.take_of_length_le hj] at h
  rw [List.all_eq_true.2 (fun s hs => by obtain ⟨y, hy, rfl⟩ := List.mem_map.1 hs; exact decide_eq_true (h y hy)), List.length_map]; rfl
theorem s_at (hx : al[j]? = some x) : (al.map CpuA.s)[j]? = some x.s := by rw [List.getElem?_map, hx]; rfl
theorem s_getD (hx : al[j]? = some x) : (al.map CpuA.s).getD j 0 = x.s := by rw [List.getD_eq_getElem?_getD, s_at hx]; rfl
-- Hall
theorem pl_get (h : Pl ms.length q) (hi : i ∈ q) : (ms.map listI)[i.toNat]? = some (listI (ms.getD i.toNat 0)) := by
  have hb := h.bnd i hi
  have hl : i.toNat < ms.length := by omega
  rw [List.getElem?_map, List.getD_eq_getElem?_getD, List.getElem?_eq_getElem hl]; rfl
theorem rows_in (ms : List Int) : ∀ l ∈ ms.map listI, ∀ c ∈ l, 0 ≤ c ∧ c < 8 := fun l hl c hc => by
  obtain ⟨s, _, rfl⟩ := List.mem_map.1 hl
  exact (mem_list.1 hc).1
theorem hall_no (hm : ∀ s ∈ ms, 0 ≤ s ∧ s < 256) (hq : Pl ms.length q) (hs : stk ms q = true) : matchV (ms.map listI) = false := by
  cases e : matchV (ms.map listI) with
  | false => rfl
  | true =>
    have hu := union_spec hm q
    have h1 := of_decide_eq_true hs
    have h2 := list_len hu.1 hu.2.1
    have hnd : (q.map Int.toNat).Nodup := by
      refine List.pairwise_map.2 (hq.ris.imp_of_mem fun {a b} ha hb hab => ?_)
      have := hq.bnd a ha; have := hq.bnd b hb
      omega
    refine absurd ((match_iff (rows_in ms)).1 e) (stuck_no (N := listI (unionL ms q)) (R := (q.map Int.toNat).take ((listI (unionL ms q)).length + 1)) (hnd.sublist (List.take_sublist _ _)) (by rw [List.length_take, List.length_map]; omega) fun r hr => ?_)
    obtain ⟨i, hi, rfl⟩ := List.mem_map.1 (List.mem_of_mem_take hr)
    exact ⟨_, pl_get hq hi, fun c hc => (hu.2.2 c).2 ⟨i, hi, hc⟩⟩
theorem hall_yes (hm : ∀ s ∈ ms, 0 ≤ s ∧ s < 256) (h : ∀ q, Pl ms.length q → stk ms q = false) : matchV (ms.map listI) = true := by
  cases e : matchV (ms.map listI) with
  | true => rfl
  | false =>
    obtain ⟨N, R, h1, h2, h3⟩ := match_stuck (rows_in ms) e
    let q : List Int := ((List.range ms.length).filter fun i => decide (i ∈ R)).map fun i : Nat => (i : Int)
    have hR : ∀ r ∈ R, r < ms.length := fun r hr => by
      obtain ⟨row, e1, _⟩ := h3 r hr
      have := (List.getElem?_eq_some_iff.1 e1).1
      rwa [List.length_map] at this
    have hq : Pl ms.length q := ⟨List.pairwise_map.2 ((List.Pairwise.filter _ List.pairwise_lt_range).imp fun e => Int.ofNat_lt.2 e), fun i hi => by
      obtain ⟨r, hr, rfl⟩ := List.mem_map.1 hi
      have := List.mem_range.1 (List.mem_filter.1 hr).1
      omega⟩
    have hlen : R.length ≤ q.length := by
      have := nodup_le (l := R.map fun r : Nat => (r : Int)) (N := q) (List.pairwise_map.2 (h1.imp fun e e2 => e (Int.ofNat_inj.1 e2))) (fun x hx => by
        obtain ⟨r, hr, rfl⟩ := List.mem_map.1 hx
        exact List.mem_map.2 ⟨r, List.mem_filter.2 ⟨List.mem_range.2 (hR r hr), decide_eq_true hr⟩, rfl⟩)
      rwa [List.length_map] at this
    have hu := union_spec hm q
    have hle : (listI (unionL ms q)).length ≤ N.length := nodup_le (list_ris.imp fun e => Int.ne_of_lt e) fun c hc => by
      obtain ⟨i, hi, hci⟩ := (hu.2.2 c).1 hc
      obtain ⟨r, hr, rfl⟩ := List.mem_map.1 hi
      have hrR : r ∈ R := of_decide_eq_true (List.mem_filter.1 hr).2
      obtain ⟨row, e1, e2⟩ := h3 r hrR
      have e3 := pl_get hq hi
      rw [Int.toNat_natCast] at e3 hci
      rw [e3] at e1; cases e1
      exact e2 c hci
    have h4 := list_len hu.1 hu.2.1
    have h5 := of_decide_eq_false (h q hq)
    exact absurd (show Lib.pop8 (unionL ms q) < (q.length : Int) by omega) h5
theorem hall (hm : ∀ s ∈ ms, 0 ≤ s ∧ s < 256) (h : Best ms r) : matchV (ms.map listI) = decide (r.length = 0) := by
  rcases h with ⟨rfl, h⟩ | ⟨h1, h2, _⟩
  · rw [hall_yes hm h]; rfl
  · have := stk_pos h2 hm
    rw [hall_no hm h1 h2, decide_eq_false (by omega)]
theorem best_facts (h : Best ms r) (hr : ¬ r.length = 0) : Pl ms.length r ∧ stk ms r = true := by
  rcases h with ⟨rfl, _⟩ | ⟨h1, h2, _⟩
  · exact absurd rfl hr
  · exact ⟨h1, h2⟩
-- what is found behind some places
/-- None is found with a place below i. -/
def NoneTo (ms p : List Int) (many : Nat) (i : Int) : Prop := ∀ j, fromV p ≤ j → j < i → ∀ q, Pl ms.length q → (p ++ [j]) <+: q → q.length = many → stk ms q = false
theorem pl_len (h : Pl n q) : q.length ≤ n := by
  have := risK_len (f := fun x : Int => x) q 0 ((n : Int) - 1) h.ris (fun x hx => by have := h.bnd x hx; omega) (by omega)
  omega
/-- Those of a set's numbers that stand below. -/
def upTo (s : Int) (i : Nat) : List Int := (listI s).filter fun c => decide (c < (i : Int))
theorem ut_zero : upTo s 0 = [] := by
  unfold upTo
  rw [List.filter_eq_nil_iff]
  intro c hc h
  have := (mem_list.1 hc).1
  have := of_decide_eq_true h
  omega
theorem ut_mem : c ∈ upTo s k ↔ c ∈ listI s ∧ c < (k : Int) := by unfold upTo; rw [List.mem_filter, decide_eq_true_eq]
theorem ut_ris : (upTo s k).Pairwise (· < ·) := List.Pairwise.filter _ list_ris
theorem ut_yes (hk : k < 8) (h : hasV s (k : Int) = true) : upTo s (k + 1) = upTo s k ++ [(k : Int)] := by
  refine ris_same ut_ris ?_ fun c => ?_
  · rw [List.pairwise_append]
    refine ⟨ut_ris, List.pairwise_singleton _ _, fun a ha b hb => ?_⟩
    rw [List.mem_singleton] at hb; subst hb
    exact (ut_mem.1 ha).2
  · rw [List.mem_append, ut_mem, ut_mem, List.mem_singleton, mem_list]
    constructor
    · rintro ⟨h1, h2⟩
      by_cases e : c = (k : Int)
      · exact .inr e
      · exact .inl ⟨h1, by omega⟩
    · rintro (⟨h1, h2⟩ | rfl)
      · exact ⟨h1, by omega⟩
      · exact ⟨⟨⟨by omega, by omega⟩, h⟩, by omega⟩
theorem ut_no (h : hasV s (k : Int) = false) : upTo s (k + 1) = upTo s k := ris_same ut_ris ut_ris fun c => by
  rw [ut_mem, ut_mem]
  constructor
  · rintro ⟨h1, h2⟩
    refine ⟨h1, ?_⟩
    by_cases e : c = (k : Int)
    · subst e; rw [(mem_list.1 h1).2] at h; cases h
    · omega
  · rintro ⟨h1, h2⟩; exact ⟨h1, by omega⟩
theorem ut_all (h0 : 0 ≤ s) (h1 : s < 256) (hn : k ≤ 8) (h : s < 2 ^ k) : upTo s k = listI s := by
  unfold upTo
  rw [List.filter_eq_self]
  exact fun c hc => decide_eq_true ((list_up h0 h1 hn).2 h c hc)
theorem ut_le : (upTo s k).length ≤ k := by
  have := risK_len (f := fun x : Int => x) (upTo s k) 0 ((k : Int) - 1) ut_ris (fun x hx => by have := ut_mem.1 hx; have := (mem_list.1 this.1).1; omega) (by omega)
  omega
-- the bits' arithmetic
theorem shr_fin : ∀ s : Fin 256, ∀ i : Fin 8, and64 ((s.val : Int).fdiv (2 ^ (min (i.val : Int).toNat IntKind.u64.bits))) 1 = if hasV (s.val : Int) (i.val : Int) = true then 1 else 0 := by decide +kernel
theorem shr_bit {i : Int} (h0 : 0 ≤ s) (h1 : s < 256) (h2 : 0 ≤ i) (h3 : i < 8) : and64 (s.fdiv (2 ^ (min i.toNat IntKind.u64.bits))) 1 = if hasV s i = true then 1 else 0 := by
  have := shr_fin ⟨s.toNat, by omega⟩ ⟨i.toNat, by omega⟩
  simpa only [Int.toNat_of_nonneg h0, Int.toNat_of_nonneg h2] using this
theorem not_fin (h0 : 0 ≤ s) (h1 : s < 4294967296) : andNotV s 255 = 0 ↔ s < 256 := by
  have e1 : s % 4294967296 = s := Int.emod_eq_of_lt h0 h1
  have e2 : ((255 : Int) % 4294967296).toNat = 255 := rfl
  unfold andNotV
  rw [e1, e2, show 4294967295 - 255 = 4294967040 from rfl, IntKind.wrap_u32]
  have hle : s.toNat &&& 4294967040 ≤ s.toNat := Nat.and_le_left
  have e3 : (((s.toNat &&& 4294967040 : Nat) : Int)) % 4294967296 = ((s.toNat &&& 4294967040 : Nat) : Int) := Int.emod_eq_of_lt (by omega) (by omega)
  rw [e3]
  have key : s.toNat &&& 4294967040 = 0 ↔ s.toNat < 256 := by
    constructor
    · intro h
      by_cases e : s.toNat < 256
      · exact e
      · exfalso
        obtain ⟨i, hi, hb⟩ : ∃ i, 8 ≤ i ∧ s.toNat.testBit i = true := by
          have := Nat.exists_ge_and_testBit_of_ge_two_pow (n := 8) (x := s.toNat) (by show 256 ≤ s.toNat; omega)
          exact this
        have hi32 : i < 32 := by
          by_cases e2 : i < 32
          · exact e2
          · have := Nat.testBit_lt_two_pow (x := s.toNat) (i := i) (Nat.lt_of_lt_of_le (show s.toNat < 2 ^ 32 by show s.toNat < 4294967296; omega) (Nat.pow_le_pow_right (by decide) (by omega)))
            rw [this] at hb; cases hb
        have h2 := congrArg (fun n : Nat => n.testBit i) h
        have hc : ∀ i : Fin 32, 8 ≤ i.val → (4294967040 : Nat).testBit i.val = true := by decide +kernel
        simp only [Nat.testBit_and, hb, hc ⟨i, hi32⟩ hi, Nat.zero_testBit, Bool.and_self] at h2
        cases h2
    · intro h
      apply Nat.eq_of_testBit_eq
      intro i
      rw [Nat.testBit_and, Nat.zero_testBit]
      by_cases e : i < 8
      · have hc : ∀ i : Fin 8, (4294967040 : Nat).testBit i.val = false := by decide +kernel
        rw [hc ⟨i, e⟩, Bool.and_false]
      · rw [Nat.testBit_lt_two_pow (Nat.lt_of_lt_of_le (show s.toNat < 2 ^ 8 from h) (Nat.pow_le_pow_right (by decide) (by omega))), Bool.false_and]
  constructor
  · intro h; have := key.1 (by omega); omega
  · intro h; have := key.2 (by omega); omega
end
-- the sum of a number's bits, as it is reckoned
def on1 (x : Int) : Int := x.fdiv (2 ^ (min (1 : Int).toNat IntKind.u64.bits))
def on2 (x : Int) : Int := and64 (on1 x) 6148914691236517205
def on3 (x : Int) : Int := and64 x 6148914691236517205
def on4 (x : Int) : Int := IntKind.u64.wrap (on2 x + on3 x)
def on5 (x : Int) : Int := (on4 x).fdiv (2 ^ (min (2 : Int).toNat IntKind.u64.bits))
def on6 (x : Int) : Int := and64 (on5 x) 3689348814741910323
def on7 (x : Int) : Int := and64 (on4 x) 3689348814741910323
def on8 (x : Int) : Int := IntKind.u64.wrap (on6 x + on7 x)
def on9 (x : Int) : Int := (on8 x).fdiv (2 ^ (min (4 : Int).toNat IntKind.u64.bits))
def on10 (x : Int) : Int := IntKind.u64.wrap (on9 x + on8 x)
def on11 (x : Int) : Int := and64 (on10 x) 1085102592571150095
def on12 (x : Int) : Int := (on11 x).fdiv (2 ^ (min (8 : Int).toNat IntKind.u64.bits))
def on13 (x : Int) : Int := IntKind.u64.wrap (on11 x + on12 x)
def on14 (x : Int) : Int := (on13 x).fdiv (2 ^ (min (16 : Int).toNat IntKind.u64.bits))
def on15 (x : Int) : Int := IntKind.u64.wrap (on13 x + on14 x)
def on16 (x : Int) : Int := (on15 x).fdiv (2 ^ (min (32 : Int).toNat IntKind.u64.bits))
def on17 (x : Int) : Int := IntKind.u64.wrap (on15 x + on16 x)
theorem ones_fin : ∀ s : Fin 256, 0 ≤ on17 (s.val : Int) ∧ on17 (s.val : Int) < 256 ∧ andI64 (on17 (s.val : Int)) 127 = Lib.pop8 (s.val : Int) := by decide +kernel
theorem ones_spec {s : Int} (h0 : 0 ≤ s) (h1 : s < 256) : 0 ≤ on17 s ∧ on17 s < 256 ∧ andI64 (on17 s) 127 = Lib.pop8 s := by
  have := ones_fin ⟨s.toNat, by omega⟩
  simpa only [Int.toNat_of_nonneg h0] using this
end Go.Proofs.YtahccegfahghfaaDoor

/-! Numbers and sets: the small ones. -/
namespace Go.Proofs.YtahccegfahghfaaDoor
open Go Go.RowKit

set_option maxRecDepth 100000 in
theorem ones_t (x : Int) (w : World)
 (h0 : 0 ≤ x) (h1 : x < 256)
 : Calls Tryd.prog 23 #[.int .u32 x] w fun e w' => e = .returned (.int .i64 (Lib.pop8 x)) ∧ Below w.heap.size w w' := by
 refine enter (Hs.start w) Tryd.func23 rfl Tryd.ntmps23 rfl (sq_ (qa0 [] [0] [] (ds_ (sq_ ?_))))
 have hp := (and_spec h0 h1).2
 refine at_calm rfl (by kernel_rfl) (by kernel_rfl) ?_
 refine cm 1 [] [0] [(3, .int .u32 x)] ([]) (by kernel_rfl) rfl al0 ?_
 refine calm_opv (.int .u32 0) (by kernel_rfl) (by kernel_rfl) (by kernel_rfl) (fun w => run_shr (kd := .u32) (kd' := .u64) (a := x) (n := 24) 0 rfl (by kernel_rfl) (by kernel_rfl) (by decide) (shr24 h0 h1) w) ?_
 refine calm_opv (.int .u8 0) (by kernel_rfl) (by kernel_rfl) (by kernel_rfl) (fun w => run_idx8 (kd := .u32) (n := 0) 0 rfl (by kernel_rfl) (by kernel_rfl) (by kernel_rfl) (by decide) (by decide) pop0 w) ?_
 refine cm 1 [] [0, 5] [(6, .int .u32 x)] ([]) (by kernel_rfl) rfl al0 ?_
 refine calm_opv (.int .u32 0) (by kernel_rfl) (by kernel_rfl) (by kernel_rfl) (fun w => run_shr (kd := .u32) (kd' := .u64) (a := x) (n := 16) 0 rfl (by kernel_rfl) (by kernel_rfl) (by decide) (shr16 h0 h1) w) ?_
 refine calm_opv (.int .u32 0) (by kernel_rfl) (by kernel_rfl) (by kernel_rfl) (fun w => run_and (a := 0) (b := 255) 0 rfl (by kernel_rfl) (by kernel_rfl) and0 w) ?_
 refine calm_opv (.int .u8 0) (by kernel_rfl) (by kernel_rfl) (by kernel_rfl) (fun w => run_idx8 (kd := .u32) (n := 0) 0 rfl (by kernel_rfl) (by kernel_rfl) (by kernel_rfl) (by decide) (by decide) pop0 w) ?_
 refine cm 2 [] [0] [(10, .int .u8 0), (11, .int .u32 x)] ([]) (by kernel_rfl) rfl al0 ?_
 refine calm_opv (.int .u32 0) (by kernel_rfl) (by kernel_rfl) (by kernel_rfl) (fun w => run_shr (kd := .u32) (kd' := .u64) (a := x) (n := 8) 0 rfl (by kernel_rfl) (by kernel_rfl) (by decide) (shr8 h0 h1) w) ?_
 refine calm_opv (.int .u32 0) (by kernel_rfl) (by kernel_rfl) (by kernel_rfl) (fun w => run_and (a := 0) (b := 255) 0 rfl (by kernel_rfl) (by kernel_rfl) and0 w) ?_
 refine calm_opv (.int .u8 0) (by kernel_rfl) (by kernel_rfl) (by kernel_rfl) (fun w => run_idx8 (kd := .u32) (n := 0) 0 rfl (by kernel_rfl) (by kernel_rfl) (by kernel_rfl) (by decide) (by decide) pop0 w) ?_
 refine cm 2 [] [] [(15, .int .u8 0), (16, .int .u32 x)] ([]) (by kernel_rfl) rfl al0 ?_
 refine calm_opv (.int .u32 x) (by kernel_rfl) (by kernel_rfl) (by kernel_rfl) (fun w => run_and (a := x) (b := 255) x rfl (by kernel_rfl) (by kernel_rfl) (and_spec h0 h1).1 w) ?_
 refine calm_opv (.int .u8 (Lib.pop8 x)) (by kernel_rfl) (by kernel_rfl) (by kernel_rfl) (fun w => run_idx8 (kd := .u32) (n := x) (Lib.pop8 x) rfl (by kernel_rfl) (by kernel_rfl) (by kernel_rfl) h0 (by omega) rfl w) ?_
 refine cm 3 [(16, .fit), (17, .fit)] [] [(2, .int .i64 (0 + (Lib.pop8 x)))] ([Fit .u8 (0 + (Lib.pop8 x))] ++ ([Fit .i64 (0 + (Lib.pop8 x))])) (by kernel_rfl) rfl (alA (al1 ⟨by simp only [kmin]; omega, by simp only [kmax]; omega⟩) (al1 (fit64 (by omega) (by omega)))) ?_
 refine calm_nil' ?_
 refine ds_ (rt ([]) (.int .i64 (0 + (Lib.pop8 x))) ?_)
 exact fun w' hw => ⟨by rw [show 0 + (Lib.pop8 x) = Lib.pop8 x from by omega], hw.below⟩

set_option maxRecDepth 100000 in
theorem bit_t (n : Int) (w : World)
 : Calls Tryd.prog 58 #[.int .i64 n] w fun e w' => e = .returned (.int .u32 (bitV n)) ∧ Below w.heap.size w w' := by
 refine enter (Hs.start w) Tryd.func58 rfl Tryd.ntmps58 rfl (sq_ (qa0 [] [0] [] (ds_ (sq_ (sq_ ?_)))))
 by_cases q3 : (n : Int) < (0 : Int)
 ·
  refine qa [(1, .yes)] [0] [(8, .bool true)] ([(n : Int) < (0 : Int)]) (al1 q3) (ds_ (t_ (sq_ (qa0 [] [] [(2, .int .u32 0)] (ds_ (rt ([]) (.int .u32 0) ?_))))))
  exact fun w' hw => ⟨by rw [bit_none (by omega)], hw.below⟩
 ·
  by_cases q7 : (n : Int) ≥ (8 : Int)
  ·
   refine qa [(1, .no), (4, .yes)] [0] [(8, .bool true)] ([¬ ((n : Int) < (0 : Int))] ++ ([(n : Int) ≥ (8 : Int)])) (alA (al1 q3) (al1 q7)) (ds_ (t_ (sq_ (qa0 [] [] [(2, .int .u32 0)] (ds_ (rt ([]) (.int .u32 0) ?_))))))
   exact fun w' hw => ⟨by rw [bit_none (by omega)], hw.below⟩
  ·
   refine qa [(1, .no), (4, .no)] [0] [(8, .bool false)] ([¬ ((n : Int) < (0 : Int))] ++ ([¬ ((n : Int) ≥ (8 : Int))])) (alA (al1 q3) (al1 q7)) (ds_ (f_ (at_skip (ds_ (sq_ (ao_ (qo0 1 [] [] [(9, .int .i64 n)] (ops_opv (.int .u32 (bitV n)) (by kernel_rfl) (by kernel_rfl) (by kernel_rfl) (fun w => run_shl (kd := .u32) (kd' := .i64) (a := 1) (n := n) (bitV n) rfl (by kernel_rfl) (by kernel_rfl) (by omega) (shl_bit (by omega) (by omega)) w) (qo0 1 [] [] [(2, .int .u32 (bitV n))] (on_ (ds_ (rt ([]) (.int .u32 (bitV n)) ?_))))))))))))
   exact fun w' hw => ⟨rfl, hw.below⟩

set_option maxRecDepth 100000 in
theorem of_t (p : Option Addr) (n cap : Nat) (l : List Int) (w : World)
 (hsl : Sv w p l) (hn : n = l.length) (hb : n ≤ 1000)
 : Calls Tryd.prog 52 #[.slice p n cap] w fun e w' => e = .returned (.tuple #[.int .u32 (ofS l), .int .i64 (ofE l)]) ∧ Below w.heap.size w w' := by
 refine enter (Hs.start w) Tryd.func52 rfl Tryd.ntmps52 rfl (sq_ (qa0 [] [0] [] (ds_ (sq_ (qa0 [] [0] [(4, .int .u32 0)] (ds_ (sq_ (sq_ (qa0 [] [4] [(8, .slice p n cap), (9, .int .i64 (n : Nat)), (10, .int .i64 0)] (ds_ (at_block (at_loop (α := Nat × Int) [4, 8, 9, 10] (fun ⟨j, c⟩ => [(4, .int .u32 c), (8, .slice p n cap), (9, .int .i64 (n : Nat)), (10, .int .i64 (j : Nat))]) (fun ⟨j, c⟩ => []) (fun ⟨j, c⟩ => j ≤ n ∧ c = setV (l.take j) ∧ ∀ y ∈ l.take j, inB y = true) (fun ⟨j, c⟩ => n - j) (0, 0) (by kernel_rfl) rfl ⟨Nat.zero_le _, rfl, all_take0T⟩ ?_))))))))))))
 rintro ⟨j, c⟩
 rintro ⟨hj, hc, hI⟩
 refine sq_ ?_
 by_cases q5 : ((j : Nat) : Int) < ((n : Nat) : Int)
 ·
  refine qa [(0, .yes)] [4, 8, 9, 10] [(11, .bool true)] ([((j : Nat) : Int) < ((n : Nat) : Int)]) (al1 q5) (ds_ (sq_ (t_ (at_skip (ds_ (sq_ (at_block (sq_ ?_))))))))
  obtain ⟨b8, o8, rfl⟩ := hsl.pos (i := j) (by omega)
  obtain ⟨x10, hx10⟩ := get_some (l := l) (m := j) (by omega)
  refine qa [(0, .at b8 o8 j), (1, .go (outs b8 (o8 + j * 1) [.int .i64 x10]))] [4, 8, 9, 10] [(6, .int .i64 x10)] ([(some ⟨b8, o8, none⟩ : Option Addr) = some ⟨b8, o8, none⟩, (j : Nat) = ((j : Nat) : Int), j < n] ++ (cellsP w b8 (o8 + j * 1) [.int .i64 x10])) (alA (al2 rfl (al2 rfl (al1 (by omega)))) (rd_pre (hsl.get hx10) _ rfl)) (ds_ (sq_ (ao_ (qo0 1 [] [4, 8, 9, 10] [(14, .int .i64 x10)] (cD (.int .u32 (bitV x10)) (fun args w => Tryd.call58 args w) (fun w hw => bit_t x10 w) (qo0 1 [] [4, 8, 9, 10] [(7, .int .u32 (bitV x10))] (on_ (ds_ (sq_ (sq_ ?_))))))))))
  by_cases q15 : ((bitV x10) : Int) = (0 : Int)
  ·
   refine qa [(1, .yes)] [4, 7, 8, 9, 10] [(17, .bool true)] ([((bitV x10) : Int) = (0 : Int)]) (al1 q15) (ds_ (t_ (sq_ (qa0 [] [] [(2, .int .u32 0), (3, .int .i64 2)] (ds_ (rt ([]) (.tuple #[.int .u32 0, .int .i64 2]) ?_))))))
   have ho := of_no (all_no (List.mem_of_getElem? hx10) (bit_zero.1 q15))
   exact fun w' hw => ⟨by rw [ho.1, ho.2], hw.below⟩
  ·
   refine qa [(1, .no)] [4, 7, 8, 9, 10] [(17, .bool false)] ([¬ (((bitV x10) : Int) = (0 : Int))]) (al1 q15) (ds_ (f_ (at_skip (ds_ (ao_ (qo0 2 [] [8, 9, 10] [(18, .int .u32 c), (19, .int .u32 (bitV x10))] (ops_opv (.int .u32 (orV c (bitV x10))) (by kernel_rfl) (by kernel_rfl) (by kernel_rfl) (fun w => run_or (a := c) (b := bitV x10) (orV c (bitV x10)) rfl (by kernel_rfl) (by kernel_rfl) rfl w) (qo0 1 [] [8, 9, 10] [(4, .int .u32 (orV c (bitV x10)))] (on_ (done_block (ds_ (qa [(0, .fit)] [4, 8, 9] [(10, .int .i64 (j + 1 : Nat))] ([Fit .i64 ((j + 1 : Nat))]) (al1 (fit64 (by omega) (by omega))) ?_))))))))))))
   exact dr [4, 8, 9, 10] (j + 1, (orV c (bitV x10))) ⟨by omega, set_onT hc hx10, all_onT hI hx10 (inB_of q15)⟩
 ·
  refine qa [(0, .no)] [4, 8, 9, 10] [(11, .bool false)] ([¬ (((j : Nat) : Int) < ((n : Nat) : Int))]) (al1 q5) (ds_ (sq_ (f_ (at_leave _ rfl (ds_ (sq_ (qa0 [] [] [(2, .int .u32 c), (3, .int .i64 0)] (ds_ (rt ([]) (.tuple #[.int .u32 c, .int .i64 0]) ?_)))))))))
  rw [List.take_of_length_le (by omega)] at hc hI
  have ho := of_yes (all_yes hI)
  exact fun w' hw => ⟨by rw [ho.1, ho.2, hc], hw.below⟩

set_option maxRecDepth 100000 in
theorem count_t (x : Int) (w : World)
 (h0 : 0 ≤ x) (h1 : x < 256)
 : Calls Tryd.prog 11 #[.int .u32 x] w fun e w' => e = .returned (.int .i64 (Lib.pop8 x)) ∧ Below w.heap.size w w' := by
 refine enter (Hs.start w) Tryd.func11 rfl Tryd.ntmps11 rfl (sq_ (qa0 [] [0] [] (ds_ (sq_ (ao_ (qo0 1 [] [] [(3, .int .u32 x)] (ops_opv (.int .u32 x) (by kernel_rfl) (by kernel_rfl) (by kernel_rfl) (fun w => run_and (a := x) (b := 255) x rfl (by kernel_rfl) (by kernel_rfl) (and_spec h0 h1).1 w) (cD (.int .i64 (Lib.pop8 x)) (fun args w => Tryd.call23 args w) (fun w hw => ones_t x w h0 h1) (qo0 1 [] [] [(2, .int .i64 (Lib.pop8 x))] (on_ (ds_ (rt ([]) (.int .i64 (Lib.pop8 x)) ?_))))))))))))
 exact fun w' hw => ⟨rfl, hw.below⟩

set_option maxRecDepth 100000 in
theorem index_t (p : Option Addr) (n cap : Nat) (l : List Int) (k : Int) (w : World)
 (hsl : Sv w p l) (hn : n = l.length) (hb : n ≤ 1000)
 : Calls Tryd.prog 53 #[.slice p n cap, .int .i64 k] w fun e w' => e = .returned (.int .i64 (idxF (fun y => decide (y = k)) l)) ∧ Below w.heap.size w w' := by
 refine enter (Hs.start w) Tryd.func53 rfl Tryd.ntmps53 rfl (sq_ (qa0 [] [0, 1] [] (ds_ (sq_ (sq_ (qa0 [] [0, 1] [(7, .int .i64 (n : Nat)), (8, .int .i64 0)] (ds_ (at_block (at_loop (α := Nat) [0, 1, 7, 8] (fun j => [(0, .slice p n cap), (1, .int .i64 k), (7, .int .i64 (n : Nat)), (8, .int .i64 (j : Nat))]) (fun j => []) (fun j => j ≤ n ∧ ∀ t y, t < j → l[t]? = some y → ¬ y = k) (fun j => n - j) 0 (by kernel_rfl) rfl ⟨Nat.zero_le _, fun t y h => by omega⟩ ?_)))))))))
 rintro j
 rintro ⟨hj, hI⟩
 refine sq_ ?_
 by_cases q4 : ((j : Nat) : Int) < ((n : Nat) : Int)
 ·
  refine qa [(0, .yes)] [0, 1, 7, 8] [(9, .bool true)] ([((j : Nat) : Int) < ((n : Nat) : Int)]) (al1 q4) (ds_ (sq_ (t_ (at_skip (ds_ (sq_ (at_block (sq_ (qa0 [] [0, 1, 7, 8] [(5, .int .i64 (j : Nat))] (ds_ (sq_ ?_)))))))))))
  obtain ⟨b8, o8, rfl⟩ := hsl.pos (i := j) (by omega)
  obtain ⟨x10, hx10⟩ := get_some (l := l) (m := j) (by omega)
  by_cases q12 : (k : Int) = (x10 : Int)
  ·
   refine qa [(3, .at b8 o8 j), (4, .go (outs b8 (o8 + j * 1) [.int .i64 x10])), (5, .yes)] [0, 1, 5, 7, 8] [(16, .bool true)] ([(some ⟨b8, o8, none⟩ : Option Addr) = some ⟨b8, o8, none⟩, (j : Nat) = ((j : Nat) : Int), j < n] ++ (cellsP w b8 (o8 + j * 1) [.int .i64 x10] ++ ([(k : Int) = (x10 : Int)]))) (alA (al2 rfl (al2 rfl (al1 (by omega)))) (alA (rd_pre (hsl.get hx10) _ rfl) (al1 q12))) (ds_ (t_ (sq_ (qa0 [] [] [(4, .int .i64 (j : Nat))] (ds_ (rt ([]) (.int .i64 (j : Nat)) ?_))))))
   exact fun w' hw => ⟨by rw [idxF_hit (fun t y ht hy => decide_eq_false (hI t y ht hy)) hx10 (decide_eq_true q12.symm)], hw.below⟩
  ·
   refine qa [(3, .at b8 o8 j), (4, .go (outs b8 (o8 + j * 1) [.int .i64 x10])), (5, .no)] [0, 1, 5, 7, 8] [(16, .bool false)] ([(some ⟨b8, o8, none⟩ : Option Addr) = some ⟨b8, o8, none⟩, (j : Nat) = ((j : Nat) : Int), j < n] ++ (cellsP w b8 (o8 + j * 1) [.int .i64 x10] ++ ([¬ ((k : Int) = (x10 : Int))]))) (alA (al2 rfl (al2 rfl (al1 (by omega)))) (alA (rd_pre (hsl.get hx10) _ rfl) (al1 q12))) (ds_ (f_ (at_skip (done_block (ds_ (qa [(0, .fit)] [0, 1, 7] [(8, .int .i64 (j + 1 : Nat))] ([Fit .i64 ((j + 1 : Nat))]) (al1 (fit64 (by omega) (by omega))) ?_))))))
   exact dr [0, 1, 7, 8] (j + 1) ⟨by omega, mem_onT hI hx10 (fun h => q12 h.symm)⟩
 ·
  refine qa [(0, .no)] [0, 1, 7, 8] [(9, .bool false)] ([¬ (((j : Nat) : Int) < ((n : Nat) : Int))]) (al1 q4) (ds_ (sq_ (f_ (at_leave _ rfl (ds_ (sq_ (qa0 [] [] [(4, .int .i64 (-1))] (ds_ (rt ([]) (.int .i64 (-1)) ?_)))))))))
  exact fun w' hw => ⟨by rw [idxF_miss (fun t y ht hy => decide_eq_false (hI t y ht hy)) (by omega)], hw.below⟩

set_option maxRecDepth 100000 in
theorem contains_t (p : Option Addr) (n cap : Nat) (l : List Int) (k : Int) (w : World)
 (hsl : Sv w p l) (hn : n = l.length) (hb : n ≤ 1000)
 : Calls Tryd.prog 35 #[.slice p n cap, .int .i64 k] w fun e w' => e = .returned (.bool (decide (k ∈ l))) ∧ Below w.heap.size w w' := by
 refine enter (Hs.start w) Tryd.func35 rfl Tryd.ntmps35 rfl (sq_ (qa0 [] [0, 1] [] (ds_ (sq_ (ao_ (qo0 2 [] [] [(5, .slice p n cap), (6, .int .i64 k)] (cD (.int .i64 (idxF (fun y => decide (y = k)) l)) (fun args w => Tryd.call53 args w) (fun w hw => index_t p n cap l k w (hsl.kept hw.below) hn (by omega)) ?_)))))))
 by_cases q4 : ((idxF (fun y => decide (y = k)) l) : Int) ≥ (0 : Int)
 ·
  refine qo 2 [(3, .yes)] [] [(4, .bool true)] ([((idxF (fun y => decide (y = k)) l) : Int) ≥ (0 : Int)]) (al1 q4) (on_ (ds_ (rt ([]) (.bool true) ?_)))
  exact fun w' hw => ⟨by rw [idx_no q4], hw.below⟩
 ·
  refine qo 2 [(3, .no)] [] [(4, .bool false)] ([¬ (((idxF (fun y => decide (y = k)) l) : Int) ≥ (0 : Int))]) (al1 q4) (on_ (ds_ (rt ([]) (.bool false) ?_)))
  exact fun w' hw => ⟨by rw [idx_yes q4], hw.below⟩

end Go.Proofs.YtahccegfahghfaaDoor

/-! Numbers in order, bits, sets. -/
namespace Go.Proofs.YtahccegfahghfaaDoor
open Go Go.RowKit
def cmpV (a b : Int) : Int := if a < b then -1 else if b < a then 1 else 0
/-- How two rows stand to one another. -/
def cmpL : List Int → List Int → Int
  | [], [] => 0
  | [], _ :: _ => -1
  | _ :: _, [] => 1
  | a :: s, b :: t => if cmpV a b = 0 then cmpL s t else cmpV a b
theorem cmpL_lex : ∀ {s t : List Int}, cmpL s t < 0 ↔ lexB s t = true
  | [], [] => by simp [cmpL, lexB]
  | [], _ :: _ => by simp [cmpL, lexB]
  | _ :: _, [] => by simp [cmpL, lexB]
  | a :: s, b :: t => by
    rw [cmpL, lexB]
    unfold cmpV
    by_cases e1 : a < b
    · rw [if_pos e1, if_pos e1, if_neg (by decide)]; simp
    · rw [if_neg e1, if_neg e1]
      by_cases e2 : b < a
      · rw [if_pos e2, if_pos e2, if_neg (by decide)]; simp
      · rw [if_neg e2, if_neg e2, if_pos rfl]; exact cmpL_lex
theorem cmpV_lt {a b : Int} (h : a < b) : cmpV a b = -1 := if_pos h
theorem cmpV_gt {a b : Int} (h : a > b) : cmpV a b = 1 := by unfold cmpV; rw [if_neg (by omega), if_pos h]
theorem cmpV_eq {a b : Int} (h1 : ¬ a < b) (h2 : ¬ a > b) : cmpV a b = 0 := by unfold cmpV; rw [if_neg h1, if_neg h2]
theorem dropAt {α : Type} {l : List α} {x : α} {j : Nat} (hx : l[j]? = some x) : l.drop j = x :: l.drop (j + 1) := by
  obtain ⟨hl, he⟩ := List.getElem?_eq_some_iff.1 hx
  rw [← he]; exact List.drop_eq_getElem_cons hl
theorem cl_on {l l2 : List Int} {j : Nat} {a b c : Int} (hI : cmpL (l.drop j) (l2.drop j) = c) (ha : l[j]? = some a) (hb : l2[j]? = some b) (e : cmpV a b = 0) : cmpL (l.drop (j + 1)) (l2.drop (j + 1)) = c := by rw [dropAt ha, dropAt hb, cmpL, if_pos e] at hI; exact hI
theorem cl_hit {l l2 : List Int} {j : Nat} {a b c : Int} (hI : cmpL (l.drop j) (l2.drop j) = c) (ha : l[j]? = some a) (hb : l2[j]? = some b) (e : ¬ cmpV a b = 0) : c = cmpV a b := by rw [dropAt ha, dropAt hb, cmpL, if_neg e] at hI; exact hI.symm
theorem cl_long {l l2 : List Int} {j : Nat} {a c : Int} (hI : cmpL (l.drop j) (l2.drop j) = c) (ha : l[j]? = some a) (h : l2.length ≤ j) : c = 1 := by rw [dropAt ha, List.drop_of_length_le h, cmpL] at hI; exact hI.symm
theorem cl_end {l l2 : List Int} {j : Nat} {c : Int} (hI : cmpL (l.drop j) (l2.drop j) = c) (h : l.length ≤ j) : (l2.length ≤ j → c = 0) ∧ (j < l2.length → c = -1) := by
  rw [List.drop_of_length_le h] at hI
  refine ⟨fun h2 => ?_, fun h2 => ?_⟩
  · rw [List.drop_of_length_le h2, cmpL] at hI; exact hI.symm
  · rw [dropAt (List.getElem?_eq_getElem h2), cmpL] at hI; exact hI.symm
theorem pw_at {l : List Int} (h : l.Pairwise (· < ·)) {i : Nat} {a b : Int} (h0 : 0 < i) (ha : l[i]? = some a) (hb : l[i - 1]? = some b) : ¬ a < b := by
  have := Ris.at (f := fun x : Int => x) h (show i - 1 < i by omega) hb ha
  have h2 : b < a := this
  omega

set_option maxRecDepth 100000 in
theorem isnan_t (a : Int) (w : World)
    : Calls Tryd.prog 44 #[.int .i64 a] w fun e w' => e = .returned (.bool false) ∧ Below w.heap.size w w' := by
  refine enter (Hs.start w) Tryd.func44 rfl Tryd.ntmps44 rfl (sq_ (qa0 [] [0] [] (ds_ (sq_ (qa [(2, .no)] [] [(2, .bool false)] ([¬ ((a : Int) ≠ (a : Int))]) (al1 (fun h => h rfl)) (ds_ (rt ([]) (.bool false) ?_)))))))
  exact fun w' hw => ⟨rfl, hw.below⟩

set_option maxRecDepth 100000 in
theorem ccompare_t (a b : Int) (w : World)
    : Calls Tryd.prog 43 #[.int .i64 a, .int .i64 b] w fun e w' => e = .returned (.int .i64 (cmpV a b)) ∧ Below w.heap.size w w' := by
  refine enter (Hs.start w) Tryd.func43 rfl Tryd.ntmps43 rfl (sq_ (qa0 [] [0, 1] [] (ds_ (sq_ (ao_ (qo0 1 [] [0, 1] [(7, .int .i64 a)] (cD (.bool false) (fun args w => Tryd.call44 args w) (fun w hw => isnan_t a w) (qo0 1 [] [0, 1] [(5, .bool false)] (on_ (ds_ (sq_ (ao_ (qo0 1 [] [0, 1, 5] [(9, .int .i64 b)] (cD (.bool false) (fun args w => Tryd.call44 args w) (fun w hw => isnan_t b w) (qo0 1 [] [0, 1, 5] [(6, .bool false)] (on_ (ds_ (sq_ (sq_ (qa0 [] [0, 1, 6] [(11, .bool false)] (ds_ (f_ (at_skip (ds_ (sq_ (sq_ (qa0 [] [0, 1] [(13, .bool false)] (ds_ (f_ (at_skip (ds_ (sq_ (sq_ ?_)))))))))))))))))))))))))))))))))
  by_cases q9 : (a : Int) < (b : Int)
  ·
    refine qa [(2, .yes)] [0, 1] [(16, .bool true)] ([(a : Int) < (b : Int)]) (al1 q9) (ds_ (t_ (sq_ (qa0 [] [] [(4, .int .i64 (-1))] (ds_ (rt ([]) (.int .i64 (-1)) ?_))))))
    exact fun w' hw => ⟨by rw [cmpV_lt q9], hw.below⟩
  ·
    refine qa [(2, .no)] [0, 1] [(16, .bool false)] ([¬ ((a : Int) < (b : Int))]) (al1 q9) (ds_ (f_ (at_skip (ds_ (sq_ (sq_ ?_))))))
    by_cases q14 : (a : Int) > (b : Int)
    ·
      refine qa [(2, .yes)] [] [(19, .bool true)] ([(a : Int) > (b : Int)]) (al1 q14) (ds_ (t_ (sq_ (qa0 [] [] [(4, .int .i64 1)] (ds_ (rt ([]) (.int .i64 1) ?_))))))
      exact fun w' hw => ⟨by rw [cmpV_gt q14], hw.below⟩
    ·
      refine qa [(2, .no)] [] [(19, .bool false)] ([¬ ((a : Int) > (b : Int))]) (al1 q14) (ds_ (f_ (at_skip (ds_ (sq_ (qa0 [] [] [(4, .int .i64 0)] (ds_ (rt ([]) (.int .i64 0) ?_))))))))
      exact fun w' hw => ⟨by rw [cmpV_eq q9 q14], hw.below⟩

set_option maxRecDepth 100000 in
theorem cless_t (a b : Int) (w : World)
    : Calls Tryd.prog 24 #[.int .i64 a, .int .i64 b] w fun e w' => e = .returned (.bool (decide (a < b))) ∧ Below w.heap.size w w' := by
  refine enter (Hs.start w) Tryd.func24 rfl Tryd.ntmps24 rfl (sq_ (qa0 [] [0, 1] [] (ds_ (sq_ (ao_ (qo0 1 [] [0, 1] [(5, .int .i64 a)] (cD (.bool false) (fun args w => Tryd.call44 args w) (fun w hw => isnan_t a w) ?_)))))))
  by_cases q4 : (a : Int) < (b : Int)
  ·
    refine qo 11 [(10, .yes)] [] [(4, .bool true)] ([(a : Int) < (b : Int)]) (al1 q4) (on_ (ds_ (rt ([]) (.bool true) ?_)))
    exact fun w' hw => ⟨by rw [decide_eq_true (by omega)], hw.below⟩
  ·
    refine qo 11 [(10, .no)] [] [(4, .bool false)] ([¬ ((a : Int) < (b : Int))]) (al1 q4) (on_ (ds_ (rt ([]) (.bool false) ?_)))
    exact fun w' hw => ⟨by rw [decide_eq_false (by omega)], hw.below⟩

set_option maxRecDepth 100000 in
theorem scompare_t (p : Option Addr) (n cap : Nat) (l : List Int) (p2 : Option Addr) (n2 cap2 : Nat) (l2 : List Int) (w : World)
    (hsl : Sv w p l) (hn : n = l.length) (hb : n ≤ 1000)
    (hsl2 : Sv w p2 l2) (hn2 : n2 = l2.length) (hb2 : n2 ≤ 1000)
    : Calls Tryd.prog 21 #[.slice p n cap, .slice p2 n2 cap2] w fun e w' => e = .returned (.int .i64 (cmpL l l2)) ∧ Below w.heap.size w w' := by
  refine enter (Hs.start w) Tryd.func21 rfl Tryd.ntmps21 rfl (sq_ (qa0 [] [0, 1] [] (ds_ (sq_ (sq_ (qa0 [] [0, 1] [(9, .slice p n cap), (10, .int .i64 (n : Nat)), (11, .int .i64 0)] (ds_ (at_block (at_loop (α := Nat) [0, 1, 9, 10, 11] (fun j => [(0, .slice p n cap), (1, .slice p2 n2 cap2), (9, .slice p n cap), (10, .int .i64 (n : Nat)), (11, .int .i64 (j : Nat))]) (fun j => []) (fun j => j ≤ n ∧ cmpL (l.drop j) (l2.drop j) = cmpL l l2) (fun j => n - j) 0 (by kernel_rfl) rfl ⟨Nat.zero_le _, rfl⟩ ?_)))))))))
  rintro j
  rintro ⟨hj, hI⟩
  refine sq_ ?_
  by_cases q4 : ((j : Nat) : Int) < ((n : Nat) : Int)
  ·
    refine qa [(0, .yes)] [0, 1, 9, 10, 11] [(12, .bool true)] ([((j : Nat) : Int) < ((n : Nat) : Int)]) (al1 q4) (ds_ (sq_ (t_ (at_skip (ds_ (sq_ (at_block (sq_ ?_))))))))
    obtain ⟨b7, o7, rfl⟩ := hsl.pos (i := j) (by omega)
    obtain ⟨x9, hx9⟩ := get_some (l := l) (m := j) (by omega)
    refine qa [(1, .at b7 o7 j), (2, .go (outs b7 (o7 + j * 1) [.int .i64 x9]))] [0, 1, 9, 10, 11] [(5, .int .i64 (j : Nat)), (6, .int .i64 x9)] ([(some ⟨b7, o7, none⟩ : Option Addr) = some ⟨b7, o7, none⟩, (j : Nat) = ((j : Nat) : Int), j < n] ++ (cellsP w b7 (o7 + j * 1) [.int .i64 x9])) (alA (al2 rfl (al2 rfl (al1 (by omega)))) (rd_pre (hsl.get hx9) _ rfl)) (ds_ (sq_ (sq_ ?_)))
    by_cases q12 : ((j : Nat) : Int) ≥ ((n2 : Nat) : Int)
    ·
      refine qa [(3, .yes)] [0, 1, 5, 6, 9, 10, 11] [(19, .bool true)] ([((j : Nat) : Int) ≥ ((n2 : Nat) : Int)]) (al1 q12) (ds_ (t_ (sq_ (qa0 [] [] [(4, .int .i64 1)] (ds_ (rt ([]) (.int .i64 1) ?_))))))
      exact fun w' hw => ⟨by rw [cl_long hI hx9 (by omega)], hw.below⟩
    ·
      refine qa [(3, .no)] [0, 1, 5, 6, 9, 10, 11] [(19, .bool false)] ([¬ (((j : Nat) : Int) ≥ ((n2 : Nat) : Int))]) (al1 q12) (ds_ (f_ (at_skip (ds_ (sq_ ?_)))))
      obtain ⟨b17, o17, rfl⟩ := hsl2.pos (i := j) (by omega)
      obtain ⟨x19, hx19⟩ := get_some (l := l2) (m := j) (by omega)
      refine qa [(2, .at b17 o17 j), (3, .go (outs b17 (o17 + j * 1) [.int .i64 x19]))] [0, 1, 6, 9, 10, 11] [(7, .int .i64 x19)] ([(some ⟨b17, o17, none⟩ : Option Addr) = some ⟨b17, o17, none⟩, (j : Nat) = ((j : Nat) : Int), j < n2] ++ (cellsP w b17 (o17 + j * 1) [.int .i64 x19])) (alA (al2 rfl (al2 rfl (al1 (by omega)))) (rd_pre (hsl2.get hx19) _ rfl)) (ds_ (sq_ (ao_ (qo0 2 [] [0, 1, 9, 10, 11] [(24, .int .i64 x9), (25, .int .i64 x19)] (cD (.int .i64 (cmpV x9 x19)) (fun args w => Tryd.call43 args w) (fun w hw => ccompare_t x9 x19 w) (qo0 1 [] [0, 1, 9, 10, 11] [(8, .int .i64 (cmpV x9 x19))] (on_ (ds_ (sq_ ?_)))))))))
      by_cases q24 : ((cmpV x9 x19) : Int) ≠ (0 : Int)
      ·
        refine qa [(1, .yes)] [0, 1, 8, 9, 10, 11] [(28, .bool true)] ([((cmpV x9 x19) : Int) ≠ (0 : Int)]) (al1 q24) (ds_ (t_ (sq_ (qa0 [] [] [(4, .int .i64 (cmpV x9 x19))] (ds_ (rt ([]) (.int .i64 (cmpV x9 x19)) ?_))))))
        exact fun w' hw => ⟨by rw [cl_hit hI hx9 hx19 q24], hw.below⟩
      ·
        refine qa [(1, .no)] [0, 1, 8, 9, 10, 11] [(28, .bool false)] ([¬ (((cmpV x9 x19) : Int) ≠ (0 : Int))]) (al1 q24) (ds_ (f_ (at_skip (done_block (ds_ (qa [(0, .fit)] [0, 1, 9, 10] [(11, .int .i64 (j + 1 : Nat))] ([Fit .i64 ((j + 1 : Nat))]) (al1 (fit64 (by omega) (by omega))) ?_))))))
        exact dr [0, 1, 9, 10, 11] (j + 1) ⟨by omega, cl_on hI hx9 hx19 (Classical.not_not.1 q24)⟩
  ·
    refine qa [(0, .no)] [0, 1, 9, 10, 11] [(12, .bool false)] ([¬ (((j : Nat) : Int) < ((n : Nat) : Int))]) (al1 q4) (ds_ (sq_ (f_ (at_leave _ rfl (ds_ (sq_ (sq_ ?_)))))))
    by_cases q31 : ((n : Nat) : Int) < ((n2 : Nat) : Int)
    ·
      refine qa [(4, .yes)] [] [(35, .bool true)] ([((n : Nat) : Int) < ((n2 : Nat) : Int)]) (al1 q31) (ds_ (t_ (sq_ (qa0 [] [] [(4, .int .i64 (-1))] (ds_ (rt ([]) (.int .i64 (-1)) ?_))))))
      exact fun w' hw => ⟨by rw [(cl_end hI (by omega)).2 (by omega)], hw.below⟩
    ·
      refine qa [(4, .no)] [] [(35, .bool false)] ([¬ (((n : Nat) : Int) < ((n2 : Nat) : Int))]) (al1 q31) (ds_ (f_ (at_skip (ds_ (sq_ (qa0 [] [] [(4, .int .i64 0)] (ds_ (rt ([]) (.int .i64 0) ?_))))))))
      exact fun w' hw => ⟨by rw [(cl_end hI (by omega)).1 (by omega)], hw.below⟩

set_option maxRecDepth 100000 in
theorem sorted_t (p : Option Addr) (n cap : Nat) (l : List Int) (w : World)
    (hsl : Sv w p l) (hn : n = l.length) (hb : n ≤ 1000)
    (hpw : l.Pairwise (· < ·)) (hn0 : 0 < n)
    : Calls Tryd.prog 12 #[.slice p n cap] w fun e w' => e = .returned (.bool true) ∧ Below w.heap.size w w' := by
  refine enter (Hs.start w) Tryd.func12 rfl Tryd.ntmps12 rfl (sq_ (qa0 [] [0] [] (ds_ (sq_ (sq_ (qa [(2, .is [] (.int .i64 ((n - 1) : Nat)))] [0] [(3, .int .i64 ((n - 1) : Nat))] ([Value.int .i64 (IntKind.i64.wrap (((n : Nat) : Int) - 1)) = .int .i64 ((n - 1) : Nat)]) (al1 (by rw [wrap_fit (fit64 (by omega) (by omega))]; congr 1; omega)) (ds_ (at_block (at_loop (α := Nat) [0, 3] (fun i => [(0, .slice p n cap), (3, .int .i64 (i : Nat))]) (fun i => []) (fun i => i ≤ n - 1) (fun i => i) (n - 1) (by kernel_rfl) rfl (Nat.le_refl _) ?_)))))))))
  rintro i
  rintro hi
  refine sq_ (sq_ ?_)
  by_cases q4 : ((i : Nat) : Int) > (0 : Int)
  ·
    refine qa [(1, .yes)] [0, 3] [(8, .bool true)] ([((i : Nat) : Int) > (0 : Int)]) (al1 q4) (ds_ (t_ (at_skip (ds_ (sq_ (at_block (sq_ ?_)))))))
    obtain ⟨b7, o7, rfl⟩ := hsl.pos (i := i) (by omega)
    obtain ⟨x9, hx9⟩ := get_some (l := l) (m := i) (by omega)
    obtain ⟨x11, hx11⟩ := get_some (l := l) (m := (i - 1)) (by omega)
    refine at_calm rfl (by kernel_rfl) (by kernel_rfl) ?_
    refine cm 9 [(2, .at b7 o7 i), (3, .go (outs b7 (o7 + i * 1) [.int .i64 x9])), (6, .is [] (.int .i64 ((i - 1) : Nat))), (7, .at b7 o7 (i - 1)), (8, .go (outs b7 (o7 + (i - 1) * 1) [.int .i64 x11]))] [0, 3] [(14, .int .i64 x9), (19, .int .i64 x11)] ([(some ⟨b7, o7, none⟩ : Option Addr) = some ⟨b7, o7, none⟩, (i : Nat) = ((i : Nat) : Int), i < n] ++ (cellsP w b7 (o7 + i * 1) [.int .i64 x9] ++ ([Value.int .i64 (IntKind.i64.wrap (((i : Nat) : Int) - 1)) = .int .i64 ((i - 1) : Nat)] ++ ([(some ⟨b7, o7, none⟩ : Option Addr) = some ⟨b7, o7, none⟩, ((i - 1) : Nat) = (((i - 1) : Nat) : Int), (i - 1) < n] ++ (cellsP w b7 (o7 + (i - 1) * 1) [.int .i64 x11]))))) (by kernel_rfl) rfl (alA (al2 rfl (al2 rfl (al1 (by omega)))) (alA (rd_pre (hsl.get hx9) _ rfl) (alA (al1 (by rw [wrap_fit (fit64 (by omega) (by omega))]; congr 1; omega)) (alA (al2 rfl (al2 rfl (al1 (by omega)))) (rd_pre (hsl.get hx11) _ rfl))))) ?_
    refine cK (.bool false) (fun args w => Tryd.call24 args w) (fun w hw => by have := cless_t x9 x11 w; rw [decide_eq_false (pw_at hpw (by omega) hx9 hx11)] at this; exact this) ?_
    refine calm_nil' ?_
    refine ds_ (f_ (at_skip (done_block (ds_ (qa [(1, .is [] (.int .i64 ((i - 1) : Nat)))] [0] [(3, .int .i64 ((i - 1) : Nat))] ([Value.int .i64 (IntKind.i64.wrap (((i : Nat) : Int) - 1)) = .int .i64 ((i - 1) : Nat)]) (al1 (by rw [wrap_fit (fit64 (by omega) (by omega))]; congr 1; omega)) ?_)))))
    exact done_round [0, 3] (i - 1) (by kernel_rfl) rfl (by omega) (by first | omega | (simp only; omega))
  ·
    refine qa [(1, .no)] [0, 3] [(8, .bool false)] ([¬ (((i : Nat) : Int) > (0 : Int))]) (al1 q4) (ds_ (f_ (at_leave _ rfl (ds_ (sq_ (qa0 [] [] [(2, .bool true)] (ds_ (rt ([]) (.bool true) ?_))))))))
    exact fun w' hw => ⟨rfl, hw.below⟩

set_option maxRecDepth 100000 in
theorem ones64_t (x : Int) (w : World)
    (h0 : 0 ≤ x) (h1 : x < 256)
    : Calls Tryd.prog 42 #[.int .u64 x] w fun e w' => e = .returned (.int .i64 (Lib.pop8 x)) ∧ Below w.heap.size w w' := by
  refine enter (Hs.start w) Tryd.func42 rfl Tryd.ntmps42 rfl (sq_ (qa0 [] [0] [] (ds_ (sq_ (ao_ (qo0 1 [] [0] [(3, .int .u64 x)] (ops_opv (.int .u64 (on1 x)) (by kernel_rfl) (by kernel_rfl) (by kernel_rfl) (fun w => run_shr (kd := .u64) (kd' := .u64) (a := x) (n := 1) (on1 x) rfl (by kernel_rfl) (by kernel_rfl) (by decide) rfl w) (ops_opv (.int .u64 (on2 x)) (by kernel_rfl) (by kernel_rfl) (by kernel_rfl) (fun w => run_and64 (a := (on1 x)) (b := 6148914691236517205) (on2 x) rfl (by kernel_rfl) (by kernel_rfl) rfl w) (qo0 1 [] [5] [(6, .int .u64 x)] (ops_opv (.int .u64 (on3 x)) (by kernel_rfl) (by kernel_rfl) (by kernel_rfl) (fun w => run_and64 (a := x) (b := 6148914691236517205) (on3 x) rfl (by kernel_rfl) (by kernel_rfl) rfl w) (ops_opv (.int .u64 (on4 x)) (by kernel_rfl) (by kernel_rfl) (by kernel_rfl) (fun w => run_addW (kd := .u64) (a := (on2 x)) (b := (on3 x)) (on4 x) rfl (by kernel_rfl) (by kernel_rfl) rfl w) (qo0 1 [] [] [(0, .int .u64 (on4 x))] (on_ (ds_ (sq_ (ao_ (qo0 1 [] [0] [(9, .int .u64 (on4 x))] (ops_opv (.int .u64 (on5 x)) (by kernel_rfl) (by kernel_rfl) (by kernel_rfl) (fun w => run_shr (kd := .u64) (kd' := .u64) (a := (on4 x)) (n := 2) (on5 x) rfl (by kernel_rfl) (by kernel_rfl) (by decide) rfl w) (ops_opv (.int .u64 (on6 x)) (by kernel_rfl) (by kernel_rfl) (by kernel_rfl) (fun w => run_and64 (a := (on5 x)) (b := 3689348814741910323) (on6 x) rfl (by kernel_rfl) (by kernel_rfl) rfl w) (qo0 1 [] [11] [(12, .int .u64 (on4 x))] (ops_opv (.int .u64 (on7 x)) (by kernel_rfl) (by kernel_rfl) (by kernel_rfl) (fun w => run_and64 (a := (on4 x)) (b := 3689348814741910323) (on7 x) rfl (by kernel_rfl) (by kernel_rfl) rfl w) (ops_opv (.int .u64 (on8 x)) (by kernel_rfl) (by kernel_rfl) (by kernel_rfl) (fun w => run_addW (kd := .u64) (a := (on6 x)) (b := (on7 x)) (on8 x) rfl (by kernel_rfl) (by kernel_rfl) rfl w) (qo0 1 [] [] [(0, .int .u64 (on8 x))] (on_ (ds_ (sq_ (ao_ (qo0 1 [] [0] [(15, .int .u64 (on8 x))] (ops_opv (.int .u64 (on9 x)) (by kernel_rfl) (by kernel_rfl) (by kernel_rfl) (fun w => run_shr (kd := .u64) (kd' := .u64) (a := (on8 x)) (n := 4) (on9 x) rfl (by kernel_rfl) (by kernel_rfl) (by decide) rfl w) (qo0 1 [] [16] [(17, .int .u64 (on8 x))] (ops_opv (.int .u64 (on10 x)) (by kernel_rfl) (by kernel_rfl) (by kernel_rfl) (fun w => run_addW (kd := .u64) (a := (on9 x)) (b := (on8 x)) (on10 x) rfl (by kernel_rfl) (by kernel_rfl) rfl w) (ops_opv (.int .u64 (on11 x)) (by kernel_rfl) (by kernel_rfl) (by kernel_rfl) (fun w => run_and64 (a := (on10 x)) (b := 1085102592571150095) (on11 x) rfl (by kernel_rfl) (by kernel_rfl) rfl w) ?_))))))))))))))))))))))))))))))))
  refine qo0 1 [] [] [(0, .int .u64 (on11 x))] (on_ (ds_ (sq_ (ao_ (qo0 2 [] [] [(20, .int .u64 (on11 x)), (21, .int .u64 (on11 x))] (ops_opv (.int .u64 (on12 x)) (by kernel_rfl) (by kernel_rfl) (by kernel_rfl) (fun w => run_shr (kd := .u64) (kd' := .u64) (a := (on11 x)) (n := 8) (on12 x) rfl (by kernel_rfl) (by kernel_rfl) (by decide) rfl w) (ops_opv (.int .u64 (on13 x)) (by kernel_rfl) (by kernel_rfl) (by kernel_rfl) (fun w => run_addW (kd := .u64) (a := (on11 x)) (b := (on12 x)) (on13 x) rfl (by kernel_rfl) (by kernel_rfl) rfl w) (qo0 1 [] [] [(0, .int .u64 (on13 x))] (on_ (ds_ (sq_ (ao_ (qo0 2 [] [] [(24, .int .u64 (on13 x)), (25, .int .u64 (on13 x))] (ops_opv (.int .u64 (on14 x)) (by kernel_rfl) (by kernel_rfl) (by kernel_rfl) (fun w => run_shr (kd := .u64) (kd' := .u64) (a := (on13 x)) (n := 16) (on14 x) rfl (by kernel_rfl) (by kernel_rfl) (by decide) rfl w) (ops_opv (.int .u64 (on15 x)) (by kernel_rfl) (by kernel_rfl) (by kernel_rfl) (fun w => run_addW (kd := .u64) (a := (on13 x)) (b := (on14 x)) (on15 x) rfl (by kernel_rfl) (by kernel_rfl) rfl w) (qo0 1 [] [] [(0, .int .u64 (on15 x))] (on_ (ds_ (sq_ (ao_ (qo0 2 [] [] [(28, .int .u64 (on15 x)), (29, .int .u64 (on15 x))] (ops_opv (.int .u64 (on16 x)) (by kernel_rfl) (by kernel_rfl) (by kernel_rfl) (fun w => run_shr (kd := .u64) (kd' := .u64) (a := (on15 x)) (n := 32) (on16 x) rfl (by kernel_rfl) (by kernel_rfl) (by decide) rfl w) (ops_opv (.int .u64 (on17 x)) (by kernel_rfl) (by kernel_rfl) (by kernel_rfl) (fun w => run_addW (kd := .u64) (a := (on15 x)) (b := (on16 x)) (on17 x) rfl (by kernel_rfl) (by kernel_rfl) rfl w) (qo0 1 [] [] [(0, .int .u64 (on17 x))] (on_ (ds_ (sq_ ?_)))))))))))))))))))))))))))
  have hos := ones_spec h0 h1
  refine ao_ (qo 2 [(1, .fit)] [] [(33, .int .i64 (on17 x))] ([Fit .i64 ((on17 x))]) (al1 (fit64 (by omega) (by omega))) (ops_opv (.int .i64 (Lib.pop8 x)) (by kernel_rfl) (by kernel_rfl) (by kernel_rfl) (fun w => run_andI64 (a := on17 x) (b := 127) (Lib.pop8 x) rfl (by kernel_rfl) (by kernel_rfl) (ones_spec h0 h1).2.2 w) (qo0 1 [] [] [(2, .int .i64 (Lib.pop8 x))] (on_ (ds_ (rt ([]) (.int .i64 (Lib.pop8 x)) ?_))))))
  exact fun w' hw => ⟨rfl, hw.below⟩

set_option maxRecDepth 100000 in
theorem onesu_t (x : Int) (w : World)
    (h0 : 0 ≤ x) (h1 : x < 256)
    : Calls Tryd.prog 20 #[.int .u64 x] w fun e w' => e = .returned (.int .i64 (Lib.pop8 x)) ∧ Below w.heap.size w w' := by
  refine enter (Hs.start w) Tryd.func20 rfl Tryd.ntmps20 rfl (sq_ (qa0 [] [0] [] (ds_ (sq_ (f_ (at_skip (ds_ (sq_ (ao_ (qo0 1 [] [] [(6, .int .u64 x)] (cD (.int .i64 (Lib.pop8 x)) (fun args w => Tryd.call42 args w) (fun w hw => ones64_t x w h0 h1) (qo0 1 [] [] [(2, .int .i64 (Lib.pop8 x))] (on_ (ds_ (rt ([]) (.int .i64 (Lib.pop8 x)) ?_)))))))))))))))
  exact fun w' hw => ⟨rfl, hw.below⟩

set_option maxRecDepth 100000 in
theorem ccheck_t (x : Int) (w : World)
    (h0 : 0 ≤ x) (h1 : x < 4294967296)
    : Calls Tryd.prog 36 #[.int .u32 x] w fun e w' => e = .returned (.int .i64 (if decide (x < 256) = true then 0 else 140)) ∧ Below w.heap.size w w' := by
  refine enter (Hs.start w) Tryd.func36 rfl Tryd.ntmps36 rfl (sq_ (qa0 [] [0] [] (ds_ (sq_ (sq_ (ao_ (qo0 1 [] [] [(3, .int .u32 x)] (ops_opv (.int .u32 (andNotV x 255)) (by kernel_rfl) (by kernel_rfl) (by kernel_rfl) (fun w => run_andNot (a := x) (b := 255) (andNotV x 255) rfl (by kernel_rfl) (by kernel_rfl) rfl w) ?_))))))))
  by_cases q4 : ((andNotV x 255) : Int) ≠ (0 : Int)
  ·
    refine qo 1 [(2, .yes)] [] [(5, .bool true)] ([((andNotV x 255) : Int) ≠ (0 : Int)]) (al1 q4) (on_ (ds_ (t_ (sq_ (qa0 [] [] [(2, .int .i64 140)] (ds_ (rt ([]) (.int .i64 140) ?_)))))))
    have hnf := not_fin h0 h1
    exact fun w' hw => ⟨by rw [decide_eq_false (by exact fun h => q4 (hnf.2 h))]; rfl, hw.below⟩
  ·
    refine qo 1 [(2, .no)] [] [(5, .bool false)] ([¬ (((andNotV x 255) : Int) ≠ (0 : Int))]) (al1 q4) (on_ (ds_ (f_ (at_skip (ds_ (sq_ (qa0 [] [] [(2, .int .i64 0)] (ds_ (rt ([]) (.int .i64 0) ?_)))))))))
    have hnf := not_fin h0 h1
    exact fun w' hw => ⟨by rw [decide_eq_true (by exact hnf.1 (Classical.not_not.1 q4))]; rfl, hw.below⟩

end Go.Proofs.YtahccegfahghfaaDoor

/-! Which may be choices; few of them. -/
namespace Go.Proofs.YtahccegfahghfaaDoor
open Go Go.RowKit

set_option maxRecDepth 100000 in
theorem choices_t (q : Option Addr) (m capq : Nat) (al : List IntsA) (w : World)
 (hal : Sv w q al) (hma : m = al.length) (hbm : m ≤ 1000) (hnm : ∀ x ∈ al, x.Reads w) (hm9 : ∀ x ∈ al, x.n ≤ 1000)
 : Calls Tryd.prog 33 #[.slice q m capq] w fun e w' => e = .returned (.bool (choB (al.map IntsA.l))) ∧ Below w.heap.size w w' := by
 refine enter (Hs.start w) Tryd.func33 rfl Tryd.ntmps33 rfl (sq_ (qa0 [] [0] [] (ds_ (sq_ (sq_ (qa0 [] [0] [(7, .slice q m capq), (8, .int .i64 (m : Nat)), (9, .int .i64 0)] (ds_ (at_block (at_loop (α := Nat) [0, 7, 8, 9] (fun j => [(0, .slice q m capq), (7, .slice q m capq), (8, .int .i64 (m : Nat)), (9, .int .i64 (j : Nat))]) (fun j => []) (fun j => j ≤ m ∧ ∀ y ∈ al.take j, rowB y.l = true) (fun j => m - j) 0 (by kernel_rfl) rfl ⟨Nat.zero_le _, all_take0T⟩ ?_)))))))))
 rintro j
 rintro ⟨hj, hI⟩
 refine sq_ ?_
 by_cases q4 : ((j : Nat) : Int) < ((m : Nat) : Int)
 ·
  refine qa [(0, .yes)] [0, 7, 8, 9] [(10, .bool true)] ([((j : Nat) : Int) < ((m : Nat) : Int)]) (al1 q4) (ds_ (sq_ (t_ (at_skip (ds_ (sq_ (at_block (sq_ ?_))))))))
  obtain ⟨b7, o7, rfl⟩ := hal.pos (i := j) (by omega)
  obtain ⟨x9, hx9⟩ := get_some (l := al) (m := j) (by omega)
  obtain ⟨hsx9, hnx9, hcx9, hbx9⟩ := hnm x9 (List.mem_of_getElem? hx9)
  refine qa [(0, .at b7 o7 j), (1, .go (outs b7 (o7 + j * 1) [.slice x9.p x9.n x9.cap]))] [0, 7, 8, 9] [(4, .slice x9.p x9.n x9.cap)] ([(some ⟨b7, o7, none⟩ : Option Addr) = some ⟨b7, o7, none⟩, (j : Nat) = ((j : Nat) : Int), j < m] ++ (cellsP w b7 (o7 + j * 1) [.slice x9.p x9.n x9.cap])) (alA (al2 rfl (al2 rfl (al1 (by omega)))) (rd_pre (hal.get hx9) _ rfl)) (ds_ (sq_ ?_))
  have hm9x9 := hm9 x9 (List.mem_of_getElem? hx9)
  refine ao_ (qo0 1 [] [0, 4, 7, 8, 9] [(14, .slice x9.p x9.n x9.cap)] ?_)
  rcases q12 : List.all x9.l inB with _ | _
  ·
   refine cD (.tuple #[.int .u32 0, .int .i64 2]) (fun args w => Tryd.call52 args w) (fun w hw => by have := of_t x9.p x9.n x9.cap x9.l w (hsx9.kept hw.below) hnx9 (by omega); rw [(of_no q12).1, (of_no q12).2] at this; exact this) (qo0 5 [] [0, 4, 7, 8, 9] [(5, .int .u32 0), (6, .int .i64 2)] (on_ (ds_ (sq_ (qa0 [] [0, 7, 8, 9] [(26, .bool true)] (ds_ (t_ (sq_ (qa0 [] [] [(2, .bool false)] (ds_ (rt ([]) (.bool false) ?_)))))))))))
   exact fun w' hw => ⟨by rw [cho_bad (mem_row hx9) (row_nall q12)], hw.below⟩
  ·
   refine cD (.tuple #[.int .u32 (setV x9.l), .int .i64 0]) (fun args w => Tryd.call52 args w) (fun w hw => by have := of_t x9.p x9.n x9.cap x9.l w (hsx9.kept hw.below) hnx9 (by omega); rw [(of_yes q12).1, (of_yes q12).2] at this; exact this) (qo0 5 [] [0, 4, 7, 8, 9] [(5, .int .u32 (setV x9.l)), (6, .int .i64 0)] (on_ (ds_ (sq_ (ao_ (qo0 4 [] [0, 4, 7, 8, 9] [(20, .bool false), (21, .int .u32 (setV x9.l))] (cD (.int .i64 (Lib.pop8 (setV x9.l))) (fun args w => Tryd.call11 args w) (fun w hw => count_t (setV x9.l) w (set_spec x9.l (all_inB.1 q12)).1 (set_spec x9.l (all_inB.1 q12)).2.1) ?_)))))))
   by_cases q19 : ((Lib.pop8 (setV x9.l)) : Int) ≠ ((x9.n : Nat) : Int)
   ·
    refine qo 4 [(7, .yes)] [0, 7, 8, 9] [(26, .bool true)] ([((Lib.pop8 (setV x9.l)) : Int) ≠ ((x9.n : Nat) : Int)]) (al1 q19) (on_ (ds_ (t_ (sq_ (qa0 [] [] [(2, .bool false)] (ds_ (rt ([]) (.bool false) ?_)))))))
    exact fun w' hw => ⟨by rw [cho_bad (mem_row hx9) (row_pno q12 (by omega))], hw.below⟩
   ·
    refine qo 4 [(7, .no)] [0, 7, 8, 9] [(26, .bool false)] ([¬ (((Lib.pop8 (setV x9.l)) : Int) ≠ ((x9.n : Nat) : Int))]) (al1 q19) (on_ (ds_ (f_ (at_skip (done_block (ds_ (qa [(0, .fit)] [0, 7, 8] [(9, .int .i64 (j + 1 : Nat))] ([Fit .i64 ((j + 1 : Nat))]) (al1 (fit64 (by omega) (by omega))) ?_)))))))
    exact dr [0, 7, 8, 9] (j + 1) ⟨by omega, all_onT hI hx9 (row_pyes q12 (by omega))⟩
 ·
  refine qa [(0, .no)] [0, 7, 8, 9] [(10, .bool false)] ([¬ (((j : Nat) : Int) < ((m : Nat) : Int))]) (al1 q4) (ds_ (sq_ (f_ (at_leave _ rfl (ds_ (sq_ ?_))))))
  by_cases q26 : ((m : Nat) : Int) ≤ (8 : Int)
  ·
   refine qa [(2, .yes)] [] [(2, .bool true)] ([((m : Nat) : Int) ≤ (8 : Int)]) (al1 q26) (ds_ (rt ([]) (.bool true) ?_))
   exact fun w' hw => ⟨by rw [cho_end hI (by omega), decide_eq_true (by omega)], hw.below⟩
  ·
   refine qa [(2, .no)] [] [(2, .bool false)] ([¬ (((m : Nat) : Int) ≤ (8 : Int))]) (al1 q26) (ds_ (rt ([]) (.bool false) ?_))
   exact fun w' hw => ⟨by rw [cho_end hI (by omega), decide_eq_false (by omega)], hw.below⟩
end Go.Proofs.YtahccegfahghfaaDoor

/-! Is there a match: by paths. -/
namespace Go.Proofs.YtahccegfahghfaaDoor
open Go Go.RowKit

set_option maxRecDepth 100000 in
theorem gives_t (rows : List (List Int)) (q : Option Addr) (m capq : Nat) (al : List IntsA) (hrw : al.map IntsA.l = rows) (hma : m = al.length) (hbm : m ≤ 1000) (hrows : ∀ l ∈ rows, ∀ c ∈ l, 0 ≤ c ∧ c < 8) (w0 : World) (X : List Ob) (g1 g3 g4 gh ga : Nat) (hal : Sv w0 q al) (hnm : ∀ x ∈ al, x.Reads w0) :
 ∀ (f : Nat) (i : Int) (D : List (Int × Int)) (A : List (Int × Bool)) (esD esA : Array MapEntry) (ckD ckA : Nat) (w : World), 0 ≤ i → i < m → WD rows D → WA A → 8 < f + A.length → MapIs .i64 (Value.int .i64) esD D → MapIs .i64 Value.bool esA A → Hs w0 (bx g1 (#[.slice q m capq]) 42 :: bx g3 (#[.map (some gh)]) 69 :: bx g4 (#[.func (.func 38) #[] #[.pointer (some ⟨g1, 0, none⟩), .pointer (some ⟨g3, 0, none⟩), .pointer (some ⟨g4, 0, none⟩)]]) 70 :: (gh, .map esD ckD) :: (ga, .map esA ckA) :: X) w →
 Calls Tryd.prog 38 #[.int .i64 i, .map (some ga), .pointer (some ⟨g1, 0, none⟩), .pointer (some ⟨g3, 0, none⟩), .pointer (some ⟨g4, 0, none⟩)] w fun e w' => ∃ esD' ckD' esA' ckA', e = .returned (.bool (givesV rows f i D A).2.2) ∧ MapIs .i64 (Value.int .i64) esD' (givesV rows f i D A).1 ∧ MapIs .i64 Value.bool esA' (givesV rows f i D A).2.1 ∧ Hs w0 (bx g1 (#[.slice q m capq]) 42 :: bx g3 (#[.map (some gh)]) 69 :: bx g4 (#[.func (.func 38) #[] #[.pointer (some ⟨g1, 0, none⟩), .pointer (some ⟨g3, 0, none⟩), .pointer (some ⟨g4, 0, none⟩)]]) 70 :: (gh, .map esD' ckD') :: (ga, .map esA' ckA') :: X) w' := by
 intro f
 induction f with
 | zero => exact fun i D A esD esA ckD ckA w _ _ _ hA hf => absurd hA.len (by omega)
 | succ f ih =>
  intro i D A esD esA ckD ckA w hi0 hi1 hWD hWA hfu hmD hmA hH
  refine enter hH Tryd.func38 rfl Tryd.ntmps38 rfl (sq_ (qa0 [] [0, 1, 2, 3, 4] [] (ds_ (sq_ (sq_ ?_)))))
  obtain ⟨b3, o3, rfl⟩ := hal.pos (i := (i).toNat) (by omega)
  obtain ⟨x5, hx5⟩ := get_some (l := al) (m := (i).toNat) (by omega)
  obtain ⟨hsx5, hnx5, hcx5, hbx5⟩ := hnm x5 (List.mem_of_getElem? hx5)
  refine qa [(0, .go (owns 0 0 1)), (2, .at b3 o3 ((i).toNat)), (3, .go (outs b3 (o3 + ((i).toNat) * 1) [.slice x5.p x5.n x5.cap]))] [0, 1, 3, 4] [(15, .slice x5.p x5.n x5.cap), (16, .int .i64 (x5.n : Nat)), (17, .int .i64 0)] ([(some ⟨b3, o3, none⟩ : Option Addr) = some ⟨b3, o3, none⟩, i = (((i).toNat : Nat) : Int), (i).toNat < m] ++ (cellsP w0 b3 (o3 + ((i).toNat) * 1) [.slice x5.p x5.n x5.cap])) (alA (al2 rfl (al2 (by omega) (al1 (by omega)))) (rd_pre (hal.get hx5) _ rfl)) (ds_ (at_block ?_))
  have hrow := row_at hrw hx5
  refine at_loop (α := Nat × List (Int × Int) × Array MapEntry × Nat × List (Int × Bool) × Array MapEntry × Nat) [0, 1, 3, 4, 15, 16, 17] (fun ⟨j, Dj, eD, kD, Aj, eA, kA⟩ => [(0, .int .i64 i), (1, .map (some ga)), (3, .pointer (some ⟨g3, 0, none⟩)), (4, .pointer (some ⟨g4, 0, none⟩)), (15, .slice x5.p x5.n x5.cap), (16, .int .i64 (x5.n : Nat)), (17, .int .i64 (j : Nat))]) (fun ⟨j, Dj, eD, kD, Aj, eA, kA⟩ => bx g1 (#[.slice (some ⟨b3, o3, none⟩) m capq]) 42 :: bx g3 (#[.map (some gh)]) 69 :: bx g4 (#[.func (.func 38) #[] #[.pointer (some ⟨g1, 0, none⟩), .pointer (some ⟨g3, 0, none⟩), .pointer (some ⟨g4, 0, none⟩)]]) 70 :: (gh, .map eD kD) :: (ga, .map eA kA) :: X) (fun ⟨j, Dj, eD, kD, Aj, eA, kA⟩ => j ≤ x5.n ∧ WD rows Dj ∧ WA Aj ∧ 8 < f + 1 + Aj.length ∧ givesC (givesV rows f) i (x5.l.drop j) Dj Aj = givesV rows (f + 1) i D A ∧ MapIs .i64 (Value.int .i64) eD Dj ∧ MapIs .i64 Value.bool eA Aj) (fun ⟨j, Dj, eD, kD, Aj, eA, kA⟩ => x5.n - j) (0, D, esD, ckD, A, esA, ckA) (by kernel_rfl) rfl ⟨Nat.zero_le _, hWD, hWA, hfu, by rw [List.drop_zero]; exact gv_row hrow, hmD, hmA⟩ ?_
  rintro ⟨j, Dj, eD, kD, Aj, eA, kA⟩
  rintro ⟨hj, hWDj, hWAj, hfj, hI, hmDj, hmAj⟩
  refine sq_ ?_
  by_cases q8 : ((j : Nat) : Int) < ((x5.n : Nat) : Int)
  ·
   refine qa [(0, .yes)] [0, 1, 3, 4, 15, 16, 17] [(18, .bool true)] ([((j : Nat) : Int) < ((x5.n : Nat) : Int)]) (al1 q8) (ds_ (sq_ (t_ (at_skip (ds_ (sq_ (at_block (sq_ ?_))))))))
   obtain ⟨b11, o11, hbo11⟩ := hsx5.pos (i := j) (by omega)
   have hsv11 := hsx5
   rw [hbo11] at hsv11
   obtain ⟨x13, hx13⟩ := get_some (l := x5.l) (m := j) (by omega)
   refine qa [(0, .at b11 o11 j), (1, .go (outs b11 (o11 + j * 1) [.int .i64 x13]))] [0, 1, 3, 4, 15, 16, 17] [(9, .int .i64 x13)] ([(x5.p : Option Addr) = some ⟨b11, o11, none⟩, (j : Nat) = ((j : Nat) : Int), j < x5.n] ++ (cellsP w0 b11 (o11 + j * 1) [.int .i64 x13])) (alA (al2 hbo11 (al2 rfl (al1 (by omega)))) (rd_pre (hsv11.get hx13) _ rfl)) (ds_ (sq_ (sq_ (ao_ (qo0 2 [] [0, 1, 3, 4, 9, 15, 16, 17] [(21, .map (some ga)), (22, .int .i64 x13)] (ops_lookup (ik := .i64) (enc := Value.bool) (kk := x13) 4 (Value.bool false) (.bool ((mget Aj x13).getD false)) rfl (by kernel_rfl) (by kernel_rfl) (by kernel_rfl) (by kernel_rfl) (⟨3, 4, by kernel_rfl, by kernel_rfl, by kernel_rfl⟩ : mapB Tryd.prog 71 .i64 (Value.bool false)) rfl hmAj (map_getD _ _ _) (on_ (ds_ ?_))))))))
   rcases q17 : (mget Aj x13).getD false with _ | _
   ·
    refine f_ (at_skip (ds_ (sq_ (ao_ (qo0 2 [] [0, 1, 3, 4, 9, 15, 16, 17] [(24, .map (some ga)), (25, .int .i64 x13)] (ops_update (ik := .i64) (enc := Value.bool) (kk := x13) 4 true (Value.bool false) rfl (by kernel_rfl) (by kernel_rfl) (by kernel_rfl) (by kernel_rfl) (by kernel_rfl) (⟨3, 4, by kernel_rfl, by kernel_rfl, by kernel_rfl⟩ : mapB Tryd.prog 71 .i64 (Value.bool false)) rfl hmAj (fun es19 ck19 hM19 => on_ (ds_ (sq_ ?_)))))))))
    rcases q21 : (mget Dj x13).isSome with _ | _
    ·
     refine ao_ (qo0 2 [(0, .go (owns 1 0 1))] [0, 1, 3, 4, 9, 15, 16, 17] [(27, .map (some gh)), (28, .int .i64 x13)] (ops_lookup (ik := .i64) (enc := (Value.int .i64)) (kk := x13) 3 ((Value.int .i64) 0) (.tuple #[.int .i64 ((mget Dj x13).getD 0), .bool ((mget Dj x13).isSome)]) rfl (by kernel_rfl) (by kernel_rfl) (by kernel_rfl) (by kernel_rfl) (⟨3, 3, by kernel_rfl, by kernel_rfl, by kernel_rfl⟩ : mapB Tryd.prog 69 .i64 ((Value.int .i64) 0)) rfl hmDj (by simp only [if_true, map_getD]) (qo 5 [(5, .is ([]) (.bool false))] [0, 1, 3, 4, 9, 15, 16, 17] [(10, .int .i64 ((mget Dj x13).getD 0)), (11, .bool false)] ([Value.bool ((mget Dj x13).isSome) = .bool false]) (al1 (by rw [q21])) (on_ (ds_ (sq_ ?_))))))
     have hmg := none_of q21
     refine qa0 [] [0, 1, 3, 4, 9, 15, 16, 17] [(39, .bool true)] (ds_ (t_ (sq_ (ao_ (qo0 3 [(0, .go (owns 1 0 1))] [] [(40, .map (some gh)), (41, .int .i64 x13), (42, .int .i64 i)] (ops_update (ik := .i64) (enc := (Value.int .i64)) (kk := x13) 3 i ((Value.int .i64) 0) rfl (by kernel_rfl) (by kernel_rfl) (by kernel_rfl) (by kernel_rfl) (by kernel_rfl) (⟨3, 3, by kernel_rfl, by kernel_rfl, by kernel_rfl⟩ : mapB Tryd.prog 69 .i64 ((Value.int .i64) 0)) rfl hmDj (fun es26 ck26 hM26 => on_ (ds_ (sq_ (qa0 [] [] [(7, .bool true)] (ds_ (rt ([]) (.bool true) ?_))))))))))))
     rw [drop_at hx13, gc_free q17 hmg] at hI
     exact fun w' hw => by rw [← hI]; exact ⟨_, _, _, _, rfl, hM26, hM19, hw⟩
    ·
     refine ao_ (qo0 2 [(0, .go (owns 1 0 1))] [0, 1, 3, 4, 9, 15, 16, 17] [(27, .map (some gh)), (28, .int .i64 x13)] (ops_lookup (ik := .i64) (enc := (Value.int .i64)) (kk := x13) 3 ((Value.int .i64) 0) (.tuple #[.int .i64 ((mget Dj x13).getD 0), .bool ((mget Dj x13).isSome)]) rfl (by kernel_rfl) (by kernel_rfl) (by kernel_rfl) (by kernel_rfl) (⟨3, 3, by kernel_rfl, by kernel_rfl, by kernel_rfl⟩ : mapB Tryd.prog 69 .i64 ((Value.int .i64) 0)) rfl hmDj (by simp only [if_true, map_getD]) (qo 5 [(5, .is ([]) (.bool true))] [0, 1, 3, 4, 9, 15, 16, 17] [(10, .int .i64 ((mget Dj x13).getD 0)), (11, .bool true)] ([Value.bool ((mget Dj x13).isSome) = .bool true]) (al1 (by rw [q21])) (on_ (ds_ (sq_ ?_))))))
     have hmg := some_getD q21
     have hrd := ask_ready hrw hma hrows hWDj hWAj hfj (hrows x5.l (List.mem_of_getElem? hrow) x13 (List.mem_of_getElem? hx13)) q17 hmg
     refine ao_ (qo0 6 [(3, .go (owns 2 0 1))] [0, 1, 3, 4, 9, 15, 16, 17] [(34, .bool false), (35, .func (.func 38) #[] #[.pointer (some ⟨g1, 0, none⟩), .pointer (some ⟨g3, 0, none⟩), .pointer (some ⟨g4, 0, none⟩)]), (36, .int .i64 ((mget Dj x13).getD 0)), (37, .map (some ga))] (cP (fun v L' => ∃ esD' ckD' esA' ckA', v = .bool (givesV rows f ((mget Dj x13).getD 0) Dj (mupd Aj x13 true)).2.2 ∧ L' = (bx g1 (#[.slice (some ⟨b3, o3, none⟩) m capq]) 42 :: bx g3 (#[.map (some gh)]) 69 :: bx g4 (#[.func (.func 38) #[] #[.pointer (some ⟨g1, 0, none⟩), .pointer (some ⟨g3, 0, none⟩), .pointer (some ⟨g4, 0, none⟩)]]) 70 :: (gh, .map esD' ckD') :: (ga, .map esA' ckA') :: X) ∧ MapIs .i64 (Value.int .i64) esD' (givesV rows f ((mget Dj x13).getD 0) Dj (mupd Aj x13 true)).1 ∧ MapIs .i64 Value.bool esA' (givesV rows f ((mget Dj x13).getD 0) Dj (mupd Aj x13 true)).2.1) (fun args w => Tryd.call38 args w) (fun w hw => (ih ((mget Dj x13).getD 0) Dj (mupd Aj x13 true) eD es19 kD ck19 w hrd.1 hrd.2.1 hWDj hrd.2.2.1 hrd.2.2.2.1 hmDj hM19 hw).mono fun e w' ⟨a, b, c, d, he, h1, h2, hX⟩ => ⟨_, _, he, ⟨a, b, c, d, rfl, rfl, h1, h2⟩, hX⟩) ?_))
     rintro v32 L32 ⟨e1_32, k1_32, e2_32, k2_32, rfl, rfl, h1_32, h2_32⟩
     refine qo0 1 [] [0, 1, 3, 4, 9, 15, 16, 17] [(39, .bool ((givesV rows f ((mget Dj x13).getD 0) Dj (mupd Aj x13 true)).2.2))] (on_ (ds_ ?_))
     rcases q34 : (givesV rows f ((mget Dj x13).getD 0) Dj (mupd Aj x13 true)).2.2 with _ | _
     ·
      refine f_ (at_skip (done_block (ds_ (qa [(0, .fit)] [0, 1, 3, 4, 15, 16] [(17, .int .i64 (j + 1 : Nat))] ([Fit .i64 ((j + 1 : Nat))]) (al1 (fit64 (by omega) (by omega))) ?_))))
      exact dr [0, 1, 3, 4, 15, 16, 17] (j + 1, ((givesV rows f ((mget Dj x13).getD 0) Dj (mupd Aj x13 true)).1), e1_32, k1_32, ((givesV rows f ((mget Dj x13).getD 0) Dj (mupd Aj x13 true)).2.1), e2_32, k2_32) ⟨by omega, hrd.2.2.2.2.1, hrd.2.2.2.2.2.1, hrd.2.2.2.2.2.2, by rw [drop_at hx13, gc_no q17 hmg q34] at hI; exact hI, h1_32, h2_32⟩
     ·
      refine t_ (sq_ (ao_ (qo0 3 [(0, .go (owns 1 0 1))] [] [(40, .map (some gh)), (41, .int .i64 x13), (42, .int .i64 i)] (ops_update (ik := .i64) (enc := (Value.int .i64)) (kk := x13) 3 i ((Value.int .i64) 0) rfl (by kernel_rfl) (by kernel_rfl) (by kernel_rfl) (by kernel_rfl) (by kernel_rfl) (⟨3, 3, by kernel_rfl, by kernel_rfl, by kernel_rfl⟩ : mapB Tryd.prog 69 .i64 ((Value.int .i64) 0)) rfl h1_32 (fun es37 ck37 hM37 => on_ (ds_ (sq_ (qa0 [] [] [(7, .bool true)] (ds_ (rt ([]) (.bool true) ?_))))))))))
      rw [drop_at hx13, gc_yes q17 hmg q34] at hI
      exact fun w' hw => by rw [← hI]; exact ⟨_, _, _, _, rfl, hM37, h2_32, hw⟩
   ·
    refine t_ (at_leave _ rfl (ds_ (qa [(0, .fit)] [0, 1, 3, 4, 15, 16] [(17, .int .i64 (j + 1 : Nat))] ([Fit .i64 ((j + 1 : Nat))]) (al1 (fit64 (by omega) (by omega))) ?_)))
    exact dr [0, 1, 3, 4, 15, 16, 17] (j + 1, Dj, eD, kD, Aj, eA, kA) ⟨by omega, hWDj, hWAj, hfj, by rw [drop_at hx13, gc_asked q17] at hI; exact hI, hmDj, hmAj⟩
  ·
   refine qa [(0, .no)] [0, 1, 3, 4, 15, 16, 17] [(18, .bool false)] ([¬ (((j : Nat) : Int) < ((x5.n : Nat) : Int))]) (al1 q8) (ds_ (sq_ (f_ (at_leave _ rfl (ds_ (sq_ (qa0 [] [] [(7, .bool false)] (ds_ (rt ([]) (.bool false) ?_)))))))))
   rw [List.drop_of_length_le (by omega), gc_nil] at hI
   exact fun w' hw => by rw [← hI]; exact ⟨_, _, _, _, rfl, hmDj, hmAj, hw⟩

set_option maxRecDepth 100000 in
theorem matching_t (q : Option Addr) (m capq : Nat) (al : List IntsA) (w : World)
 (hal : Sv w q al) (hma : m = al.length) (hbm : m ≤ 1000) (hnm : ∀ x ∈ al, x.Reads w)
 (hrows : ∀ l ∈ al.map IntsA.l, ∀ c ∈ l, 0 ≤ c ∧ c < 8)
 : Calls Tryd.prog 16 #[.slice q m capq] w fun e w' => e = .returned (.bool (matchV (al.map IntsA.l))) ∧ Below w.heap.size w w' := by
 refine enter (Hs.start w) Tryd.func16 rfl Tryd.ntmps16 rfl (sq_ (ma0 [] [] (fun γ1 => [(1, .pointer (some ⟨γ1 0, 0, none⟩))]) (fun γ1 L => bx (γ1 0) (#[.slice q m capq]) 42 :: L) (fun γ1 => ds_ (sq_ (ma0 [(2, .go (owns 0 0 1))] [1] (fun γ2 => [(3, .pointer (some ⟨γ2 1, 0, none⟩))]) (fun γ2 L => bx (γ2 1) (#[.map (some (γ2 0))]) 69 :: (γ2 0, .map #[] 0) :: L) (fun γ2 => ds_ (sq_ (ma0 [] [1, 3] (fun γ3 => [(4, .pointer (some ⟨γ3 0, 0, none⟩))]) (fun γ3 L => bx (γ3 0) (#[.nilFunc]) 70 :: L) (fun γ3 => ds_ (sq_ (ma0 [(1, .go (owns 0 0 1))] [1, 4] (fun _ => []) (fun _ L => (L.set 0 (bx (γ3 0) (#[.func (.func 38) #[] #[.pointer (some ⟨γ1 0, 0, none⟩), .pointer (some ⟨γ2 1, 0, none⟩), .pointer (some ⟨γ3 0, 0, none⟩)]]) 70))) (fun _ => ds_ (sq_ (sq_ (qa0 [(0, .go (owns 3 0 1))] [4] [(9, .int .i64 (m : Nat)), (10, .int .i64 0)] (ds_ (at_block (At.pick [[bx (γ3 0) (#[.func (.func 38) #[] #[.pointer (some ⟨γ1 0, 0, none⟩), .pointer (some ⟨γ2 1, 0, none⟩), .pointer (some ⟨γ3 0, 0, none⟩)]]) 70], [bx (γ2 1) (#[.map (some (γ2 0))]) 69], [(γ2 0, .map #[] 0)], [bx (γ1 0) (#[.slice q m capq]) 42]] [3, 1, 0, 2] [] ([bx (γ1 0) (#[.slice q m capq]) 42, bx (γ2 1) (#[.map (some (γ2 0))]) 69, bx (γ3 0) (#[.func (.func 38) #[] #[.pointer (some ⟨γ1 0, 0, none⟩), .pointer (some ⟨γ2 1, 0, none⟩), .pointer (some ⟨γ3 0, 0, none⟩)]]) 70, (γ2 0, .map #[] 0)]) (by kernel_rfl) rfl rfl (at_loop (α := Nat × List (Int × Int) × Array MapEntry × Nat) [4, 9, 10] (fun ⟨j, Dj, eD, kD⟩ => [(4, .pointer (some ⟨γ3 0, 0, none⟩)), (9, .int .i64 (m : Nat)), (10, .int .i64 (j : Nat))]) (fun ⟨j, Dj, eD, kD⟩ => [bx (γ1 0) (#[.slice q m capq]) 42, bx (γ2 1) (#[.map (some (γ2 0))]) 69, bx (γ3 0) (#[.func (.func 38) #[] #[.pointer (some ⟨γ1 0, 0, none⟩), .pointer (some ⟨γ2 1, 0, none⟩), .pointer (some ⟨γ3 0, 0, none⟩)]]) 70, (γ2 0, .map eD kD)]) (fun ⟨j, Dj, eD, kD⟩ => j ≤ m ∧ kuhnV (al.map IntsA.l) j = some Dj ∧ MapIs .i64 (Value.int .i64) eD Dj) (fun ⟨j, Dj, eD, kD⟩ => m - j) (0, [], #[], 0) (by kernel_rfl) rfl ⟨Nat.zero_le _, rfl, MapIs.nil⟩ ?_)))))))))))))))))))
 rintro ⟨j, Dj, eD, kD⟩
 rintro ⟨hj, hK, hmDj⟩
 refine sq_ ?_
 by_cases q7 : ((j : Nat) : Int) < ((m : Nat) : Int)
 ·
  refine qa [(0, .yes)] [4, 9, 10] [(11, .bool true)] ([((j : Nat) : Int) < ((m : Nat) : Int)]) (al1 q7) (ds_ (sq_ (t_ (at_skip (ds_ (sq_ (at_block (sq_ (qa0 [] [4, 9, 10] [(5, .int .i64 (j : Nat))] (ds_ (sq_ (ao_ (mo0 3 [(0, .go (owns 2 0 1))] [4, 9, 10] (fun γ10 => [(13, .func (.func 38) #[] #[.pointer (some ⟨γ1 0, 0, none⟩), .pointer (some ⟨γ2 1, 0, none⟩), .pointer (some ⟨γ3 0, 0, none⟩)]), (14, .int .i64 (j : Nat)), (15, .map (some (γ10 0)))]) (fun γ10 L => (γ10 0, .map #[] 0) :: L) (fun γ10 => Ops.pick [[(γ10 0, .map #[] 0)], [bx (γ1 0) (#[.slice q m capq]) 42], [bx (γ2 1) (#[.map (some (γ2 0))]) 69], [bx (γ3 0) (#[.func (.func 38) #[] #[.pointer (some ⟨γ1 0, 0, none⟩), .pointer (some ⟨γ2 1, 0, none⟩), .pointer (some ⟨γ3 0, 0, none⟩)]]) 70], [(γ2 0, .map eD kD)]] [1, 2, 3, 4, 0] [] ([bx (γ1 0) (#[.slice q m capq]) 42, bx (γ2 1) (#[.map (some (γ2 0))]) 69, bx (γ3 0) (#[.func (.func 38) #[] #[.pointer (some ⟨γ1 0, 0, none⟩), .pointer (some ⟨γ2 1, 0, none⟩), .pointer (some ⟨γ3 0, 0, none⟩)]]) 70, (γ2 0, .map eD kD), (γ10 0, .map #[] 0)]) (by kernel_rfl) rfl rfl (cP (fun v L' => ∃ esD' ckD' esA' ckA', v = .bool (givesV (al.map IntsA.l) 9 ((j : Nat) : Int) Dj []).2.2 ∧ L' = ([bx (γ1 0) (#[.slice q m capq]) 42, bx (γ2 1) (#[.map (some (γ2 0))]) 69, bx (γ3 0) (#[.func (.func 38) #[] #[.pointer (some ⟨γ1 0, 0, none⟩), .pointer (some ⟨γ2 1, 0, none⟩), .pointer (some ⟨γ3 0, 0, none⟩)]]) 70, (γ2 0, .map esD' ckD'), (γ10 0, .map esA' ckA')]) ∧ MapIs .i64 (Value.int .i64) esD' (givesV (al.map IntsA.l) 9 ((j : Nat) : Int) Dj []).1 ∧ MapIs .i64 Value.bool esA' (givesV (al.map IntsA.l) 9 ((j : Nat) : Int) Dj []).2.1) (fun args w => Tryd.call38 args w) (fun w hw => (gives_t (al.map IntsA.l) q m capq al rfl hma hbm hrows _ [] (γ1 0) (γ2 1) (γ3 0) (γ2 0) (γ10 0) hal hnm 9 ((j : Nat) : Int) Dj [] eD #[] kD 0 w (by omega) (by omega) (kuhn_inv hrows j _ (by rw [List.length_map]; omega) hK).1 wa_nil (by decide) hmDj MapIs.nil hw).mono fun e w' ⟨a, b, c, d, he, h1, h2, hX⟩ => ⟨_, _, he, ⟨a, b, c, d, rfl, rfl, h1, h2⟩, hX⟩) ?_)))))))))))))))
  rintro v11 L11 ⟨e1_11, k1_11, e2_11, k2_11, rfl, rfl, h1_11, h2_11⟩
  rcases q13 : (givesV (al.map IntsA.l) 9 ((j : Nat) : Int) Dj []).2.2 with _ | _
  ·
   refine qo0 1 [] [4, 9, 10] [(17, .bool true)] (on_ (ds_ (t_ (sq_ (qa0 [] [] [(2, .bool false)] (ds_ (rt ([]) (.bool false) ?_)))))))
   exact fun w' hw => ⟨by rw [match_no hK q13 (by rw [List.length_map]; omega)], hw.below⟩
  ·
   refine qo0 1 [] [4, 9, 10] [(17, .bool false)] (on_ (ds_ (f_ (at_skip (done_block (ds_ (qa [(0, .fit)] [4, 9] [(10, .int .i64 (j + 1 : Nat))] ([Fit .i64 ((j + 1 : Nat))]) (al1 (fit64 (by omega) (by omega))) (Done.drop (L' := [bx (γ1 0) (#[.slice q m capq]) 42, bx (γ2 1) (#[.map (some (γ2 0))]) 69, bx (γ3 0) (#[.func (.func 38) #[] #[.pointer (some ⟨γ1 0, 0, none⟩), .pointer (some ⟨γ2 1, 0, none⟩), .pointer (some ⟨γ3 0, 0, none⟩)]]) 70, (γ2 0, .map e1_11 k1_11)]) ?_ (List.Sublist.cons_cons _ (List.Sublist.cons_cons _ (List.Sublist.cons_cons _ (List.Sublist.cons_cons _ (List.Sublist.cons _ (List.Sublist.refl _))))))))))))))
   exact dr [4, 9, 10] (j + 1, ((givesV (al.map IntsA.l) 9 ((j : Nat) : Int) Dj []).1), e1_11, k1_11) ⟨by omega, kuhn_next hK q13, h1_11⟩
 ·
  refine qa [(0, .no)] [4, 9, 10] [(11, .bool false)] ([¬ (((j : Nat) : Int) < ((m : Nat) : Int))]) (al1 q7) (ds_ (sq_ (f_ (at_leave _ rfl (ds_ (sq_ (qa0 [] [] [(2, .bool true)] (ds_ (rt ([]) (.bool true) ?_)))))))))
  exact fun w' hw => ⟨by rw [match_all hK (by rw [List.length_map]; omega)], hw.below⟩
end Go.Proofs.YtahccegfahghfaaDoor

/-! The first match. -/
namespace Go.Proofs.YtahccegfahghfaaDoor
open Go Go.RowKit

set_option maxRecDepth 100000 in
theorem clonerr_t (p : Option Addr) (n cap : Nat) (l : List IntsA) (w : World)
 (hsl : Sv w p l) (hn : n = l.length) (hb : n ≤ 1000)
 : Calls Tryd.prog 34 #[.slice p n cap] w fun e w' => ∃ q capq Y, e = .returned (.slice q n capq) ∧ SlO 27 Y q n capq l ∧ Below w.heap.size w w' ∧ Hs w Y w' := by
 refine enter (Hs.start w) Tryd.func34 rfl Tryd.ntmps34 rfl (sq_ (qa0 [] [0] [] (ds_ (sq_ (sq_ ?_)))))
 rcases p with _ | a3
 ·
  refine qa0 [] [0] [(4, .bool true)] (ds_ (t_ (sq_ (qa0 [] [] [(2, .slice none 0 0)] (ds_ (rt ([]) (.slice none 0 0) ?_))))))
  exact fun w' hw => ⟨none, 0, [], by rw [hn, hsl.none]; rfl, by rw [hn, hsl.none]; exact SlO.nil, hw.below, hw.sub (List.nil_sublist _)⟩
 ·
  refine qa0 [] [0] [(4, .bool false)] (ds_ (f_ (at_skip (ds_ (sq_ (ao_ (mo0 2 [] [] (fun γ7 => [(5, .slice (some ⟨γ7 0, 0, none⟩) 0 0), (6, .slice (some a3) n cap)]) (fun γ7 L => bx (γ7 0) (#[]) 27 :: L) (fun γ7 => ops_append (α := IntsA) [] ([bx (γ7 0) (#[]) 27]) ([]) (mvE rfl) rfl (by kernel_rfl) (by kernel_rfl) (p := (some ⟨γ7 0, 0, none⟩)) (n := 0) (cap := 0) (m := n) (yv := .slice (some a3) n cap) (by kernel_rfl) (by kernel_rfl) (T := 27) (by_ := 24) (by kernel_rfl) ([]) l (SlO.lit (by rfl) (by rfl) (by simp [maxLen])) (fun w hw => src_svn Tryd.underlying42 (hsl.kept hw.below) hn) hn (by have hmx : maxLen = 9223372036854775807 := rfl; omega) (by have hmx : maxLen = 9223372036854775807 := rfl; omega) (fun Y8 p8 cap8 hO8 => qo0 1 [] [] [(2, .slice p8 (0 + n) cap8)] (on_ (ds_ (rt ([]) (.slice p8 (0 + n) cap8) ?_))))))))))))
  exact fun w' hw => ⟨_, _, _, by rw [Nat.zero_add], by simpa using hO8, hw.below, ((hw.tailN 0).sub (List.sublist_append_left Y8 ([])))⟩

set_option maxRecDepth 100000 in
theorem cloneints_t (p : Option Addr) (n cap : Nat) (l : List Int) (w : World)
 (hsl : Sv w p l) (hn : n = l.length) (hb : n ≤ 1000)
 : Calls Tryd.prog 32 #[.slice p n cap] w fun e w' => ∃ q capq Y, e = .returned (.slice q n capq) ∧ SlO 3 Y q n capq l ∧ Below w.heap.size w w' ∧ Hs w Y w' := by
 refine enter (Hs.start w) Tryd.func32 rfl Tryd.ntmps32 rfl (sq_ (qa0 [] [0] [] (ds_ (sq_ (sq_ ?_)))))
 rcases p with _ | a3
 ·
  refine qa0 [] [0] [(4, .bool true)] (ds_ (t_ (sq_ (qa0 [] [] [(2, .slice none 0 0)] (ds_ (rt ([]) (.slice none 0 0) ?_))))))
  exact fun w' hw => ⟨none, 0, [], by rw [hn, hsl.none]; rfl, by rw [hn, hsl.none]; exact SlO.nil, hw.below, hw.sub (List.nil_sublist _)⟩
 ·
  refine qa0 [] [0] [(4, .bool false)] (ds_ (f_ (at_skip (ds_ (sq_ (ao_ (mo0 2 [] [] (fun γ7 => [(5, .slice (some ⟨γ7 0, 0, none⟩) 0 0), (6, .slice (some a3) n cap)]) (fun γ7 L => bx (γ7 0) (#[]) 3 :: L) (fun γ7 => ops_append (α := Int) [] ([bx (γ7 0) (#[]) 3]) ([]) (mvE rfl) rfl (by kernel_rfl) (by kernel_rfl) (p := (some ⟨γ7 0, 0, none⟩)) (n := 0) (cap := 0) (m := n) (yv := .slice (some a3) n cap) (by kernel_rfl) (by kernel_rfl) (T := 3) (by_ := 8) (by kernel_rfl) ([]) l (SlO.lit (by rfl) (by rfl) (by simp [maxLen])) (fun w hw => src_svn Tryd.underlying27 (hsl.kept hw.below) hn) hn (by have hmx : maxLen = 9223372036854775807 := rfl; omega) (by have hmx : maxLen = 9223372036854775807 := rfl; omega) (fun Y8 p8 cap8 hO8 => qo0 1 [] [] [(2, .slice p8 (0 + n) cap8)] (on_ (ds_ (rt ([]) (.slice p8 (0 + n) cap8) ?_))))))))))))
  exact fun w' hw => ⟨_, _, _, by rw [Nat.zero_add], by simpa using hO8, hw.below, ((hw.tailN 0).sub (List.sublist_append_left Y8 ([])))⟩

set_option maxRecDepth 100000 in
theorem match_t (q : Option Addr) (m capq : Nat) (al : List IntsA) (w : World)
 (hal : Sv w q al) (hma : m = al.length) (hbm : m ≤ 1000) (hnm : ∀ x ∈ al, x.Reads w) (hm9 : ∀ x ∈ al, x.n ≤ 1000)
 : Calls Tryd.prog 14 #[.slice q m capq] w fun e w' => ∃ q' m' c' Y, e = .returned (.tuple #[.slice q' m' c', .bool (matchA (al.map IntsA.l)).2]) ∧ SlO 3 Y q' m' c' (matchA (al.map IntsA.l)).1 ∧ Below w.heap.size w w' ∧ Hs w Y w' := by
 refine enter (Hs.start w) Tryd.func14 rfl Tryd.ntmps14 rfl (sq_ (qa0 [] [0] [] (ds_ (sq_ (sq_ ?_)))))
 rcases q2 : choB (al.map IntsA.l) with _ | _
 ·
  refine ao_ (qo0 1 [] [0] [(10, .slice q m capq)] (cD (.bool false) (fun args w => Tryd.call33 args w) (fun w hw => by have := choices_t q m capq al w (hal.kept hw.below) hma (by omega) (fun x hx => (hnm x hx).kept hw.below) hm9; rw [q2] at this; exact this) (qo0 6 [] [0] [(17, .bool true)] (on_ (ds_ (t_ (sq_ (qa0 [] [] [(2, .slice none 0 0), (3, .bool false)] (ds_ (rt ([]) (.tuple #[.slice none 0 0, .bool false]) ?_))))))))))
  exact fun w' hw => by rw [ma_bad q2]; exact ⟨none, 0, 0, [], rfl, SlO.nil, hw.below, hw.sub (List.nil_sublist _)⟩
 ·
  have hrw := (cho_rows q2).1
  have hm8 := (cho_rows q2).2.1
  rw [List.length_map] at hm8
  refine ao_ (qo0 1 [] [0] [(10, .slice q m capq)] (cD (.bool true) (fun args w => Tryd.call33 args w) (fun w hw => by have := choices_t q m capq al w (hal.kept hw.below) hma (by omega) (fun x hx => (hnm x hx).kept hw.below) hm9; rw [q2] at this; exact this) (qo0 3 [] [0] [(13, .bool false), (14, .slice q m capq)] ?_)))
  rcases q8 : matchV (al.map IntsA.l) with _ | _
  ·
   refine cD (.bool false) (fun args w => Tryd.call16 args w) (fun w hw => by have := matching_t q m capq al w (hal.kept hw.below) hma (by omega) (fun x hx => (hnm x hx).kept hw.below) hrw; rw [q8] at this; exact this) (qo0 2 [] [0] [(17, .bool true)] (on_ (ds_ (t_ (sq_ (qa0 [] [] [(2, .slice none 0 0), (3, .bool false)] (ds_ (rt ([]) (.tuple #[.slice none 0 0, .bool false]) ?_))))))))
   exact fun w' hw => by rw [ma_no q8]; exact ⟨none, 0, 0, [], rfl, SlO.nil, hw.below, hw.sub (List.nil_sublist _)⟩
  ·
   refine cD (.bool true) (fun args w => Tryd.call16 args w) (fun w hw => by have := matching_t q m capq al w (hal.kept hw.below) hma (by omega) (fun x hx => (hnm x hx).kept hw.below) hrw; rw [q8] at this; exact this) (qo0 2 [] [0] [(17, .bool false)] (on_ (ds_ (f_ (at_skip (ds_ (sq_ (ao_ (qo0 1 [] [0] [(18, .slice q m capq)] (cP (fun v L' => ∃ q_ c_ Y_, v = .slice q_ m c_ ∧ L' = List.take 0 ([]) ++ (Y_ ++ List.drop 0 ([])) ∧ SlO 27 Y_ q_ m c_ al) (fun args w => Tryd.call34 args w) (fun w hw => (clonerr_t q m capq al w (hal.kept hw.below) hma (by omega)).mono fun e w' ⟨q_, c_, Y_, he, hO, hb, hY⟩ => ⟨_, _, he, ⟨q_, c_, Y_, rfl, rfl, hO⟩, hw.join hb hY 0⟩) ?_))))))))))
   rintro v13 L13 ⟨q13, cq13, Y13, rfl, rfl, hO13⟩
   refine qo0 1 [] [0] [(4, .slice q13 m cq13)] (on_ (ds_ (sq_ (qa0 [] [0, 4] [(5, .slice none 0 0)] (ds_ (sq_ (sq_ (qa0 [] [4, 5] [(20, .slice q m capq), (21, .int .i64 (m : Nat)), (22, .int .i64 0)] (ds_ (at_block (at_loop (α := Nat × List IntsA × List Ob × Option Addr × Nat × List Int × List Ob × Option Addr × Nat × Nat × List Ob) [4, 5, 20, 21, 22] (fun ⟨i, ll, Yl, pl, cl, ol, Yo, po, no, co, Yi⟩ => [(4, .slice pl m cl), (5, .slice po no co), (20, .slice q m capq), (21, .int .i64 (m : Nat)), (22, .int .i64 (i : Nat))]) (fun ⟨i, ll, Yl, pl, cl, ol, Yo, po, no, co, Yi⟩ => (Yl ++ (Yo ++ (Yi ++ [])))) (fun ⟨i, ll, Yl, pl, cl, ol, Yo, po, no, co, Yi⟩ => i ≤ m ∧ SlO 27 Yl pl m cl ll ∧ SlO 3 Yo po no co ol ∧ InnP 3 w Yi ll ∧ (∀ l ∈ ll.map IntsA.l, ∀ c ∈ l, 0 ≤ c ∧ c < 8) ∧ no ≤ i ∧ greedV (al.map IntsA.l) i = (ll.map IntsA.l, ol)) (fun ⟨i, ll, Yl, pl, cl, ol, Yo, po, no, co, Yi⟩ => m - i) (0, al, Y13, q13, cq13, [], [], none, 0, 0, []) (by kernel_rfl) rfl ⟨Nat.zero_le _, hO13, SlO.nil, InnP.start hnm, hrw, Nat.le_refl _, rfl⟩ ?_)))))))))))
   rintro ⟨i, ll, Yl, pl, cl, ol, Yo, po, no, co, Yi⟩
   rintro ⟨hi, hL, hO, hP, hLr, hno, hG⟩
   have hll := hL.len
   have hlo := hO.len
   refine sq_ ?_
   by_cases q18 : ((i : Nat) : Int) < ((m : Nat) : Int)
   ·
    refine qa [(0, .yes)] [4, 5, 20, 21, 22] [(23, .bool true)] ([((i : Nat) : Int) < ((m : Nat) : Int)]) (al1 q18) (ds_ (sq_ (t_ (at_skip (ds_ (sq_ (at_block (sq_ ?_))))))))
    obtain ⟨b21, o21, rfl⟩ := hal.pos (i := i) (by omega)
    obtain ⟨x23, hx23⟩ := get_some (l := al) (m := i) (by omega)
    obtain ⟨hsx23, hnx23, hcx23, hbx23⟩ := hnm x23 (List.mem_of_getElem? hx23)
    refine qa [(1, .at b21 o21 i), (2, .go (outs b21 (o21 + i * 1) [.slice x23.p x23.n x23.cap]))] [4, 5, 20, 21, 22] [(6, .int .i64 (i : Nat)), (7, .slice x23.p x23.n x23.cap)] ([(some ⟨b21, o21, none⟩ : Option Addr) = some ⟨b21, o21, none⟩, (i : Nat) = ((i : Nat) : Int), i < m] ++ (cellsP w b21 (o21 + i * 1) [.slice x23.p x23.n x23.cap])) (alA (al2 rfl (al2 rfl (al1 (by omega)))) (rd_pre (hal.get hx23) _ rfl)) (ds_ (sq_ (qa0 [] [4, 5, 6, 20, 21, 22] [(27, .slice x23.p x23.n x23.cap), (28, .int .i64 (x23.n : Nat)), (29, .int .i64 0)] (ds_ (at_block ?_)))))
    have hrow := row_at (rows := (al.map IntsA.l)) rfl hx23
    have hm9x := hm9 x23 (List.mem_of_getElem? hx23)
    refine at_loop (α := Nat × List IntsA × List Ob × Option Addr × Nat × List Ob) [4, 5, 6, 20, 21, 22, 27, 28, 29] (fun ⟨j, lm, Ym, pm, cm, Yj⟩ => [(4, .slice pm m cm), (5, .slice po no co), (6, .int .i64 (i : Nat)), (20, .slice (some ⟨b21, o21, none⟩) m capq), (21, .int .i64 (m : Nat)), (22, .int .i64 (i : Nat)), (27, .slice x23.p x23.n x23.cap), (28, .int .i64 (x23.n : Nat)), (29, .int .i64 (j : Nat))]) (fun ⟨j, lm, Ym, pm, cm, Yj⟩ => (Ym ++ (Yo ++ (Yj ++ [])))) (fun ⟨j, lm, Ym, pm, cm, Yj⟩ => j ≤ x23.n ∧ SlO 27 Ym pm m cm lm ∧ InnP 3 w Yj lm ∧ (∀ l ∈ lm.map IntsA.l, ∀ c ∈ l, 0 ≤ c ∧ c < 8) ∧ pickL i (x23.l.drop j) (lm.map IntsA.l) ol = greedV (al.map IntsA.l) (i + 1)) (fun ⟨j, lm, Ym, pm, cm, Yj⟩ => x23.n - j) (0, ll, Yl, pl, cl, Yi) (by kernel_rfl) rfl ⟨Nat.zero_le _, hL, hP, hLr, by rw [List.drop_zero]; exact greed_row hrow hG⟩ ?_
    rintro ⟨j, lm, Ym, pm, cm, Yj⟩
    rintro ⟨hj, hM, hQ, hMr, hK⟩
    have hlm := hM.len
    refine sq_ ?_
    by_cases q27 : ((j : Nat) : Int) < ((x23.n : Nat) : Int)
    ·
     refine qa [(0, .yes)] [4, 5, 6, 20, 21, 22, 27, 28, 29] [(30, .bool true)] ([((j : Nat) : Int) < ((x23.n : Nat) : Int)]) (al1 q27) (ds_ (sq_ (t_ (at_skip (ds_ (sq_ (at_block (sq_ ?_))))))))
     obtain ⟨b30, o30, hbo30⟩ := hsx23.pos (i := j) (by omega)
     have hsv30 := hsx23
     rw [hbo30] at hsv30
     obtain ⟨x32, hx32⟩ := get_some (l := x23.l) (m := j) (by omega)
     refine qa [(0, .at b30 o30 j), (1, .go (outs b30 (o30 + j * 1) [.int .i64 x32]))] [4, 5, 6, 20, 21, 22, 27, 28, 29] [(9, .int .i64 x32)] ([(x23.p : Option Addr) = some ⟨b30, o30, none⟩, (j : Nat) = ((j : Nat) : Int), j < x23.n] ++ (cellsP w b30 (o30 + j * 1) [.int .i64 x32])) (alA (al2 hbo30 (al2 rfl (al1 (by omega)))) (rd_pre (hsv30.get hx32) _ rfl)) (ds_ (sq_ (sq_ (ao_ (qo0 2 [] [4, 5, 6, 9, 20, 21, 22, 27, 28, 29] [(33, .slice po no co), (34, .int .i64 x32)] ?_)))))
     rcases q35 : decide (x32 ∈ ol) with _ | _
     ·
      refine cD (.bool false) (fun args w => Tryd.call35 args w) (fun w hw => by have := contains_t po no co ol x32 w (hO.atN (A := (Ym)) hw) hO.len (by omega); rw [q35] at this; exact this) (on_ (ds_ (f_ (at_skip (ds_ (sq_ ?_))))))
      have hln38 := hM.len
      obtain ⟨g38, cs38, rfl, rfl, hOw38⟩ := hM.rowOf (i := i) (by omega)
      obtain ⟨x40, hx40⟩ := get_some (l := lm) (m := i) (by omega)
      refine ma [(4, .at g38 0 i), (5, .go (ownps 1 (0 + i * 1) [undef]))] [4, 5, 6, 9, 20, 21, 22, 27, 28, 29] (fun γ41 => []) (fun γ41 L => bx (γ41 0) (#[.int .i64 x32]) 3 :: (L.set 0 (bx g38 ((cs38).setIfInBounds (0 + i * 1) (.slice (some ⟨γ41 0, 0, none⟩) 1 1)) 27))) (fun γ41 => [(some ⟨g38, 0, none⟩ : Option Addr) = some ⟨g38, 0, none⟩, (i : Nat) = ((i : Nat) : Int), i < m] ++ ([0 + i * 1 < (cs38).size])) (fun γ41 => (alA (al2 rfl (al2 rfl (al1 (by omega)))) (al1 (hOw38.room hM.len hx40 (f := 0) (by decide))))) (fun γ41 => ds_ (sq_ ?_))
      have hQ2 := hQ.set (i := i) (y := (⟨(some ⟨γ41 0, 0, none⟩), 1, 1, [x32]⟩ : IntsA)) (SlO.lit (by rfl) (by rfl) (by simp [maxLen]))
      have hst : List.map IntsA.l (lm.set i (⟨(some ⟨γ41 0, 0, none⟩), 1, 1, [x32]⟩ : IntsA)) = (lm.map IntsA.l).set i [x32] := by rw [List.map_set]
      have hMr2 : ∀ l ∈ List.map IntsA.l (lm.set i (⟨(some ⟨γ41 0, 0, none⟩), 1, 1, [x32]⟩ : IntsA)), ∀ c ∈ l, 0 ≤ c ∧ c < 8 := by rw [hst]; exact rows_set hMr (hrw x23.l (List.mem_of_getElem? hrow) x32 (List.mem_of_getElem? hx32))
      refine ao_ (qo0 1 [] [4, 5, 6, 9, 20, 21, 22, 27, 28, 29] [(41, .slice (some ⟨g38, 0, none⟩) m cm)] ?_)
      rcases q43 : matchV ((lm.set i (⟨(some ⟨γ41 0, 0, none⟩), 1, 1, [x32]⟩ : IntsA)).map IntsA.l) with _ | _
      ·
       refine cD (.bool false) (fun args w => Tryd.call16 args w) (fun w hw => by have := matching_t (some ⟨g38, 0, none⟩) m cm (lm.set i (⟨(some ⟨γ41 0, 0, none⟩), 1, 1, [x32]⟩ : IntsA)) w ((SlO.ofOwn (hOw38.put (x' := (⟨(some ⟨γ41 0, 0, none⟩), 1, 1, [x32]⟩ : IntsA)) hM.len hx40 (f := 0) (by decide) rfl) (len_set hM.len)).atN (A := [_]) hw) (len_set hM.len) (by omega) (hQ2.reads hw (List.Sublist.cons_cons _ (List.Sublist.cons _ ((List.sublist_append_left Yj _).trans (List.sublist_append_right Yo _))))) hMr2; rw [q43] at this; exact this) (on_ (ds_ (f_ (at_skip (done_block (ds_ (qa [(0, .fit)] [4, 5, 6, 20, 21, 22, 27, 28] [(29, .int .i64 (j + 1 : Nat))] ([Fit .i64 ((j + 1 : Nat))]) (al1 (fit64 (by omega) (by omega))) (Done.pick [[bx (γ41 0) (#[.int .i64 x32]) 3], [bx g38 ((cs38).setIfInBounds (0 + i * 1) (.slice (some ⟨γ41 0, 0, none⟩) 1 1)) 27], Yo, Yj] [1, 2, 0, 3] [] (([bx g38 ((cs38).setIfInBounds (0 + i * 1) (.slice (some ⟨γ41 0, 0, none⟩) 1 1)) 27] ++ (Yo ++ ([bx (γ41 0) (#[.int .i64 x32]) 3] ++ (Yj ++ []))))) (by kernel_rfl) rfl rfl ?_))))))))
       exact dr [4, 5, 6, 20, 21, 22, 27, 28, 29] (j + 1, (lm.set i (⟨(some ⟨γ41 0, 0, none⟩), 1, 1, [x32]⟩ : IntsA)), [bx g38 ((cs38).setIfInBounds (0 + i * 1) (.slice (some ⟨γ41 0, 0, none⟩) 1 1)) 27], (some ⟨g38, 0, none⟩), cm, ([bx (γ41 0) (#[.int .i64 x32]) 3] ++ Yj)) ⟨by omega, (SlO.ofOwn (hOw38.put (x' := (⟨(some ⟨γ41 0, 0, none⟩), 1, 1, [x32]⟩ : IntsA)) hM.len hx40 (f := 0) (by decide) rfl) (len_set hM.len)), hQ2, hMr2, by rw [drop_at hx32] at hK; rw [hst] at q43; rw [pk_no q35 q43] at hK; rw [hst]; exact hK⟩
      ·
       refine cD (.bool true) (fun args w => Tryd.call16 args w) (fun w hw => by have := matching_t (some ⟨g38, 0, none⟩) m cm (lm.set i (⟨(some ⟨γ41 0, 0, none⟩), 1, 1, [x32]⟩ : IntsA)) w ((SlO.ofOwn (hOw38.put (x' := (⟨(some ⟨γ41 0, 0, none⟩), 1, 1, [x32]⟩ : IntsA)) hM.len hx40 (f := 0) (by decide) rfl) (len_set hM.len)).atN (A := [_]) hw) (len_set hM.len) (by omega) (hQ2.reads hw (List.Sublist.cons_cons _ (List.Sublist.cons _ ((List.sublist_append_left Yj _).trans (List.sublist_append_right Yo _))))) hMr2; rw [q43] at this; exact this) (on_ (ds_ (t_ (sq_ (ao_ (mo0 3 [] [4, 20, 21, 22] (fun γ47 => [(43, .slice po no co), (45, .slice (some ⟨γ47 0, 0, none⟩) 1 1)]) (fun γ47 L => bx (γ47 0) (#[.int .i64 x32]) 3 :: L) (fun γ47 => ops_append (α := Int) [bx (γ47 0) (#[.int .i64 x32]) 3, bx (γ41 0) (#[.int .i64 x32]) 3, bx g38 ((cs38).setIfInBounds (0 + i * 1) (.slice (some ⟨γ41 0, 0, none⟩) 1 1)) 27] Yo (Yj ++ []) (.refl _) rfl (by kernel_rfl) (by kernel_rfl) (p := po) (n := no) (cap := co) (m := 1) (yv := .slice (some ⟨γ47 0, 0, none⟩) 1 1) (by kernel_rfl) (by kernel_rfl) (T := 3) (by_ := 8) (by kernel_rfl) ol ([x32]) hO (fun w hw => src_svn Tryd.underlying27 (sv_row (hw.row 0 rfl) (by rfl)) (by rfl)) (by rfl) (by have hmx : maxLen = 9223372036854775807 := rfl; omega) (by have hmx : maxLen = 9223372036854775807 := rfl; omega) (fun Y48 p48 cap48 hO48 => qo0 1 [] [4, 20, 21, 22] [(5, .slice p48 (no + 1) cap48)] (on_ (ds_ (at_leave _ rfl (done_block (ds_ (qa [(0, .fit)] [4, 5, 20, 21] [(22, .int .i64 (i + 1 : Nat))] ([Fit .i64 ((i + 1 : Nat))]) (al1 (fit64 (by omega) (by omega))) (Done.pick [[bx (γ47 0) (#[.int .i64 x32]) 3], [bx (γ41 0) (#[.int .i64 x32]) 3], [bx g38 ((cs38).setIfInBounds (0 + i * 1) (.slice (some ⟨γ41 0, 0, none⟩) 1 1)) 27], Y48, Yj] [2, 3, 1, 4] [0] (([bx g38 ((cs38).setIfInBounds (0 + i * 1) (.slice (some ⟨γ41 0, 0, none⟩) 1 1)) 27] ++ (Y48 ++ ([bx (γ41 0) (#[.int .i64 x32]) 3] ++ (Yj ++ []))))) (by kernel_rfl) rfl rfl ?_)))))))))))))))
       rw [hst] at q43
       exact dr [4, 5, 20, 21, 22] (i + 1, (lm.set i (⟨(some ⟨γ41 0, 0, none⟩), 1, 1, [x32]⟩ : IntsA)), ([bx g38 ((cs38).setIfInBounds (0 + i * 1) (.slice (some ⟨γ41 0, 0, none⟩) 1 1)) 27]), (some ⟨g38, 0, none⟩), cm, (ol ++ [x32]), Y48, p48, (no + 1), cap48, ([bx (γ41 0) (#[.int .i64 x32]) 3] ++ Yj)) ⟨by omega, (SlO.ofOwn (hOw38.put (x' := (⟨(some ⟨γ41 0, 0, none⟩), 1, 1, [x32]⟩ : IntsA)) hM.len hx40 (f := 0) (by decide) rfl) (len_set hM.len)), hO48, hQ2, hMr2, by omega, by rw [hst, ← hK, drop_at hx32, pk_yes q35 q43]⟩
     ·
      refine cD (.bool true) (fun args w => Tryd.call35 args w) (fun w hw => by have := contains_t po no co ol x32 w (hO.atN (A := (Ym)) hw) hO.len (by omega); rw [q35] at this; exact this) (on_ (ds_ (t_ (at_leave _ rfl (ds_ (qa [(0, .fit)] [4, 5, 6, 20, 21, 22, 27, 28] [(29, .int .i64 (j + 1 : Nat))] ([Fit .i64 ((j + 1 : Nat))]) (al1 (fit64 (by omega) (by omega))) ?_))))))
      exact dr [4, 5, 6, 20, 21, 22, 27, 28, 29] (j + 1, lm, Ym, pm, cm, Yj) ⟨by omega, hM, hQ, hMr, by rw [drop_at hx32, pk_in q35] at hK; exact hK⟩
    ·
     refine qa [(0, .no)] [4, 5, 6, 20, 21, 22, 27, 28, 29] [(30, .bool false)] ([¬ (((j : Nat) : Int) < ((x23.n : Nat) : Int))]) (al1 q27) (ds_ (sq_ (f_ (at_leave _ rfl (done_block (ds_ (qa [(0, .fit)] [4, 5, 20, 21] [(22, .int .i64 (i + 1 : Nat))] ([Fit .i64 ((i + 1 : Nat))]) (al1 (fit64 (by omega) (by omega))) ?_)))))))
     exact dr [4, 5, 20, 21, 22] (i + 1, lm, Ym, pm, cm, ol, Yo, po, no, co, Yj) ⟨by omega, hM, hO, hQ, hMr, by omega, by rw [← hK, List.drop_of_length_le (by omega), pk_nil]⟩
   ·
    refine qa [(0, .no)] [4, 5, 20, 21, 22] [(23, .bool false)] ([¬ (((i : Nat) : Int) < ((m : Nat) : Int))]) (al1 q18) (ds_ (sq_ (f_ (at_leave _ rfl (ds_ (sq_ (qa0 [] [] [(2, .slice po no co), (3, .bool true)] (ds_ (rt ([]) (.tuple #[.slice po no co, .bool true]) ?_)))))))))
    obtain rfl : i = m := by omega
    exact fun w' hw => by rw [ma_yes q2 q8, List.length_map, ← hma, hG]; exact ⟨_, _, _, _, rfl, hO, hw.below, one_tail14 (Hs.pick [Yl, Yo, Yi] [1] [0, 2] (by kernel_rfl) hw)⟩
end Go.Proofs.YtahccegfahghfaaDoor

/-! The document's first match. -/
namespace Go.Proofs.YtahccegfahghfaaDoor
open Go Go.RowKit
theorem SlO.as14 {α : Type} [Enc α] {T : TypeId} {Y : List Ob} {p : Option Addr} {n cap : Nat} {l l' : List α} (h : SlO T Y p n cap l) (e : l = l') : SlO T Y p n cap l' := e ▸ h

end Go.Proofs.YtahccegfahghfaaDoor

/-! The numbers of a set. -/
namespace Go.Proofs.YtahccegfahghfaaDoor
open Go Go.RowKit
def tz_ren : Go.Shelf.Ren := ⟨fun | 28 => 61 | n => n, fun | 0 => 0 | 3 => 3 | 4 => 4 | 5 => 5 | 25 => 48 | 27 => 30 | 53 => 95 | n => n, fun _ => 0⟩
theorem tzL : Go.Proofs.Lays7.n28 Tryd.prog tz_ren where
 mixed := by kernel_rfl
 f28 := Tryd.func61.trans (congrArg some (by kernel_rfl))
 t0 := Tryd.underlying0
 a0 := Tryd.isAgg0
 z0 := Tryd.sizeOf0
 v0 := Tryd.zeroValue0
 i0 := by kernel_rfl
 t3 := Tryd.underlying3
 a3 := Tryd.isAgg3
 z3 := Tryd.sizeOf3
 v3 := Tryd.zeroValue3
 i3 := by kernel_rfl
 t4 := Tryd.underlying4
 a4 := Tryd.isAgg4
 z4 := Tryd.sizeOf4
 v4 := Tryd.zeroValue4
 i4 := by kernel_rfl
 t5 := Tryd.underlying5
 a5 := Tryd.isAgg5
 z5 := Tryd.sizeOf5
 v5 := Tryd.zeroValue5
 i5 := by kernel_rfl
 t25 := Tryd.underlying48
 a25 := Tryd.isAgg48
 z25 := Tryd.sizeOf48
 v25 := Tryd.zeroValue48
 i25 := by kernel_rfl
 t27 := Tryd.underlying30
 a27 := Tryd.isAgg30
 z27 := Tryd.sizeOf30
 v27 := Tryd.zeroValue30
 i27 := by kernel_rfl
 t53 := Tryd.underlying95
 a53 := Tryd.isAgg95
 z53 := Tryd.sizeOf95
 v53 := Tryd.zeroValue95
 i53 := by kernel_rfl
 g0 := by kernel_rfl
theorem tab_kept {tab : List Nat} {w w' : World} (h : TabAt 0 tab w) (hb : Below w.heap.size w w') : TabAt 0 tab w' := fun j hj => by
 have h1 := h j hj
 have hlt : 0 < w.heap.size := by
  cases e : w.heap[0]? with
  | none => rw [World.cell?] at h1; simp [e] at h1
  | some o => exact (Array.getElem?_eq_some_iff.1 e).1
 rw [hb.cell hlt]; exact h1
theorem tz_t (x : Int) (w : World) (h0 : 0 < x) (h1 : x < 256) (hT : TabAt 0 Lib.deBruijn32tab w) : Calls Tryd.prog 61 #[.int .u32 x] w fun e w' => e = .returned (.int .i64 ((Lib.ctz 32 x.toNat : Nat) : Int)) ∧ Below w.heap.size w w' := by
 have := Any7.bits_TrailingZeros32 tzL x.toNat (by omega) w (fun _ => hT)
 rw [Int.toNat_of_nonneg (by omega)] at this
 exact this.mono fun e w' ⟨he, hw⟩ => ⟨he, by rw [hw]; exact Below.refl _ _⟩
theorem li_len {x : Int} : (listI x).length ≤ 8 := Nat.le_trans (List.length_filter_le ..) (by decide)
theorem li_next {x c : Int} {lo : List Int} (h0 : 0 < c) (h1 : c < 256) (hL : lo ++ listI c = listI x) : (lo ++ [((Lib.ctz 32 c.toNat : Nat) : Int)]) ++ listI (andV c (c - 1)) = listI x := by
 rw [List.append_assoc, List.singleton_append, ← (list_spec h0 h1).2.2]; exact hL
theorem li_le {x c : Int} {lo : List Int} (hL : lo ++ listI c = listI x) : lo.length ≤ 8 := by
 have h1 := congrArg List.length hL
 rw [List.length_append] at h1
 have := li_len (x := x)
 omega

set_option maxRecDepth 100000 in
theorem list_t (x : Int) (w : World)
 (h0 : 0 ≤ x) (h1 : x < 256) (hT : TabAt 0 Lib.deBruijn32tab w)
 : Calls Tryd.prog 37 #[.int .u32 x] w fun e w' => ∃ q' n' c' Y, e = .returned (.slice q' n' c') ∧ SlO 3 Y q' n' c' (listI x) ∧ Below w.heap.size w w' ∧ Hs w Y w' := by
 refine enter (Hs.start w) Tryd.func37 rfl Tryd.ntmps37 rfl (sq_ (qa0 [] [0] [] (ds_ (sq_ (ao_ (qo0 1 [] [] [(3, .int .u32 x)] (ops_inline (g := 55) (args := #[.int .u32 x]) (by kernel_rfl) (by kernel_rfl) (by kernel_rfl) (fun args w => Tryd.call55 args w) Tryd.func55 rfl Tryd.ntmps55 rfl (sq_ (ma0 [] [] (fun γ3 => [(1, .pointer (some ⟨γ3 0, 0, none⟩))]) (fun γ3 L => bx (γ3 0) (#[.int .u32 x]) 31 :: L) (fun γ3 => ds_ (sq_ (qa0 [] [] [(2, .func (.func 60) #[] #[.pointer (some ⟨γ3 0, 0, none⟩)])] (ds_ (bk ([]) (.func (.func 60) #[] #[.pointer (some ⟨γ3 0, 0, none⟩)]) (ops_inline (g := 54) (args := #[.func (.func 60) #[] #[.pointer (some ⟨γ3 0, 0, none⟩)]]) (by kernel_rfl) (by kernel_rfl) (by kernel_rfl) (fun args w => Tryd.call54 args w) Tryd.func54 rfl Tryd.ntmps54 rfl (sq_ (qa0 [] [0] [] (ds_ (sq_ (ao_ (qo0 1 [] [] [(3, .func (.func 60) #[] #[.pointer (some ⟨γ3 0, 0, none⟩)])] (ops_inlineM (g := 59) (args := #[.slice none 0 0, .func (.func 60) #[] #[.pointer (some ⟨γ3 0, 0, none⟩)]]) (by kernel_rfl) (by kernel_rfl) (by kernel_rfl) (fun args w => Tryd.call59 args w) Tryd.func59 rfl Tryd.ntmps59 rfl (sq_ (ma0 [] [1] (fun γ8 => [(2, .pointer (some ⟨γ8 0, 0, none⟩))]) (fun γ8 L => bx (γ8 0) (#[.slice none 0 0]) 27 :: L) (fun γ8 => ds_ (sq_ (sq_ (qa0 [] [2] [(6, .func (.func 60) #[] #[.pointer (some ⟨γ3 0, 0, none⟩)])] (ds_ (at_block (at_range (gf := 60) (lb := #[.pointer (some ⟨γ3 0, 0, none⟩)]) (by kernel_rfl) (fun args w => Tryd.call60 args w) Tryd.func60 rfl Tryd.ntmps60 (by kernel_rfl) (fun γ10 r10 hr10 => sq_ (ao_ (qo0 1 [(0, .go (owns 3 0 1))] [0, 1] [(3, .int .u32 x)] (ops_opv (.int .u32 x) (by kernel_rfl) (by kernel_rfl) (by kernel_rfl) (fun w => run_and (a := x) (b := 255) x rfl (by kernel_rfl) (by kernel_rfl) (and_spec h0 h1).1 w) (qo0 1 [(2, .go (owns 3 0 1))] [0, 1] [] (on_ (ds_ (at_block (at_loop (α := Int × List Int × List Ob × Option Addr × Nat × Nat) [0, 1] (fun ⟨c, lo, Yo, po, nu, co⟩ => [(0, .func (.yield (γ10 1)) #[] #[]), (1, .pointer (some ⟨γ3 0, 0, none⟩))]) (fun ⟨c, lo, Yo, po, nu, co⟩ => (γ10 1, .loop r10) :: (γ10 0, .deferred (some [])) :: bx (γ8 0) (#[.slice po nu co]) 27 :: bx (γ3 0) (#[.int .u32 c]) 31 :: (Yo ++ [])) (fun ⟨c, lo, Yo, po, nu, co⟩ => 0 ≤ c ∧ c < 256 ∧ lo ++ listI c = listI x ∧ SlO 3 Yo po nu co lo) (fun ⟨c, lo, Yo, po, nu, co⟩ => c.toNat) (x, [], [], none, 0, 0) (by kernel_rfl) rfl ⟨h0, h1, rfl, SlO.nil⟩ ?_))))))))))))))))))))))))))))))))))))))))
 rintro ⟨c, lo, Yo, po, nu, co⟩
 rintro ⟨hc0, hc1, hL, hO⟩
 have hlo := hO.len
 have hle := li_le hL
 refine sq_ (sq_ ?_)
 by_cases q14 : (c : Int) ≠ (0 : Int)
 ·
  refine qa [(0, .go (owns 3 0 1)), (1, .yes)] [0, 1] [(6, .bool true)] ([(c : Int) ≠ (0 : Int)]) (al1 q14) (ds_ (t_ (at_skip (ds_ (sq_ (at_block (sq_ (ao_ (qo0 2 [(1, .go (owns 3 0 1))] [0, 1] [(11, .func (.yield (γ10 1)) #[] #[]), (12, .int .u32 c)] (cD (.int .i64 ((Lib.ctz 32 c.toNat : Nat) : Int)) (fun args w => Tryd.call61 args w) (fun w hw => tz_t c w (by omega) hc1 (tab_kept hT hw.below)) (ops_yield (args := #[.int .i64 ((Lib.ctz 32 c.toNat : Nat) : Int)]) (by kernel_rfl) (by kernel_rfl) (by kernel_rfl) 0 rfl hr10 rfl (by kernel_rfl) (qa0 [] [2] [(5, .int .i64 ((Lib.ctz 32 c.toNat : Nat) : Int))] (done_asg 0 rfl (at_block (ao_ (mo0 3 [(0, .go (owns 2 0 1))] [2] (fun γ19 => [(8, .slice po nu co), (10, .slice (some ⟨γ19 0, 0, none⟩) 1 1)]) (fun γ19 L => bx (γ19 0) (#[.int .i64 ((Lib.ctz 32 c.toNat : Nat) : Int)]) 3 :: L) (fun γ19 => ops_append (α := Int) [bx (γ19 0) (#[.int .i64 ((Lib.ctz 32 c.toNat : Nat) : Int)]) 3, (γ10 1, .loop { r10 with state := .busy }), (γ10 0, .deferred (some [])), bx (γ8 0) (#[.slice po nu co]) 27, bx (γ3 0) (#[.int .u32 c]) 31] Yo ([]) (.refl _) rfl (by kernel_rfl) (by kernel_rfl) (p := po) (n := nu) (cap := co) (m := 1) (yv := .slice (some ⟨γ19 0, 0, none⟩) 1 1) (by kernel_rfl) (by kernel_rfl) (T := 3) (by_ := 8) (by kernel_rfl) lo ([((Lib.ctz 32 c.toNat : Nat) : Int)]) hO (fun w hw => src_svn Tryd.underlying27 (sv_row (hw.row 0 rfl) (by rfl)) (by rfl)) (by rfl) (by have hmx : maxLen = 9223372036854775807 := rfl; omega) (by have hmx : maxLen = 9223372036854775807 := rfl; omega) (fun Y20 p20 cap20 hO20 => mo0 1 [(4, .go (owns 3 0 1))] [] (fun _ => []) (fun _ L => (L.set 3 (bx (γ8 0) (#[.slice p20 (nu + 1) cap20]) 27))) (fun _ => on_ (done_block (done_rnd 1 rfl (qo0 1 [] [0, 1] [(15, .bool false)] (on_ (ds_ (f_ (at_skip (done_block (ds_ (ao_ (qo 3 [(0, .go (owns 4 0 1)), (1, .go (owns 4 0 1)), (2, .fit)] [0, 1] [(7, .int .u32 c), (9, .int .u32 (c - 1))] ([Fit .u32 (c - 1)]) (al1 ⟨by simp only [kmin]; omega, by simp only [kmax]; omega⟩) (ops_opv (.int .u32 (andV c (c - 1))) (by kernel_rfl) (by kernel_rfl) (by kernel_rfl) (fun w => run_and (a := c) (b := c - 1) (andV c (c - 1)) rfl (by kernel_rfl) (by kernel_rfl) rfl w) (mo0 1 [(4, .go (owns 4 0 1))] [0, 1] (fun _ => []) (fun _ L => (L.set 4 (bx (γ3 0) (#[.int .u32 (andV c (c - 1))]) 31))) (fun _ => on_ (Done.drop (L' := (γ10 1, .loop r10) :: (γ10 0, .deferred (some [])) :: bx (γ8 0) (#[.slice p20 (nu + 1) cap20]) 27 :: bx (γ3 0) (#[.int .u32 (andV c (c - 1))]) 31 :: (Y20 ++ [])) ?_ (List.Sublist.cons _ (List.Sublist.cons_cons _ (List.Sublist.cons_cons _ (List.Sublist.cons_cons _ (List.Sublist.cons_cons _ (List.Sublist.refl _))))))))))))))))))))))))))))))))))))))))
  have hls := list_spec (s := c) (by omega) hc1
  exact dr [0, 1] (andV c (c - 1), (lo ++ [((Lib.ctz 32 c.toNat : Nat) : Int)]), Y20, p20, (nu + 1), cap20) ⟨hls.1, by omega, li_next (by omega) hc1 hL, hO20⟩
 ·
  refine qa [(0, .go (owns 3 0 1)), (1, .no)] [0, 1] [(6, .bool false)] ([¬ ((c : Int) ≠ (0 : Int))]) (al1 q14) (ds_ (f_ (at_leave _ rfl (done_back (by rfl) (⟨0, rfl, ?_⟩)))))
  refine done_block (ds_ (sq_ (qa0 [(0, .go (owns 1 0 1))] [] [(4, .slice po nu co)] (ds_ (at_backM 0 rfl ([]) (.slice po nu co) [] (by kernel_rfl) (by kernel_rfl) al0 (qo0 1 [] [] [(2, .slice po nu co)] (on_ (ds_ (bk ([]) (.slice po nu co) (qo0 1 [] [] [(2, .slice po nu co)] (on_ (ds_ (rt ([]) (.slice po nu co) ?_)))))))))))))
  rw [show c = 0 by omega, listI_zero, List.append_nil] at hL
  exact fun w' hw => ⟨_, _, _, _, rfl, by rw [← hL]; exact hO, hw.below, one_tail14 (Hs.pick [[bx (γ8 0) (#[.slice po nu co]) 27], [bx (γ3 0) (#[.int .u32 c]) 31], Yo] [2] [0, 1] (by kernel_rfl) hw)⟩

end Go.Proofs.YtahccegfahghfaaDoor

/-! Gangs; plain. -/
namespace Go.Proofs.YtahccegfahghfaaDoor
open Go Go.RowKit

/-- A gang as an element: its members lie in a row of their own. -/
structure GngA where
  id : Int
  p : Option Addr
  n : Nat
  cap : Nat
  l : List Int
def GngA.enc (x : GngA) : List Value := [.int .i64 x.id, .slice x.p x.n x.cap]
instance : Enc GngA := ⟨GngA.enc, 2, fun _ => rfl, fun x v h => by simp [GngA.enc] at h; rcases h with rfl | rfl <;> rfl, by decide⟩
def GngA.row (x : GngA) : IntsA := ⟨x.p, x.n, x.cap, x.l⟩
/-- A gang: its number, its members. -/
def GngA.val (x : GngA) : Int × List Int := (x.id, x.l)
def GngA.Reads (w : World) (x : GngA) : Prop := x.row.Reads w
abbrev Gs := List (Int × List Int)
def upB : Int → List Int → Bool
  | _, [] => true
  | a, n :: t => decide (a < n ∧ n ≤ 16) && upB n t
def mayB (l : List Int) : Bool := upB 0 l && decide (2 ≤ l.length ∧ l.length ≤ 8)
def idsB : Int → List Int → Bool
  | _, [] => true
  | a, n :: t => decide (a < n ∧ n ≤ 8) && idsB n t
def memL (gs : Gs) : List Int := gs.flatMap (·.2)
def gangB (gs : Gs) : Bool := idsB 0 (gs.map (·.1)) && gs.all (fun g => mayB g.2) && decide (memL gs).Nodup
def metM (l : List Int) : List (Int × Bool) := l.foldl (fun D n => mupd D n true) []
section
variable {l t : List Int} {a n k : Int} {gs : Gs} {g : Int × List Int} {i j : Nat} {x : GngA} {al : List GngA}
theorem met_on : metM (l ++ [n]) = mupd (metM l) n true := by simp [metM]
theorem met_get : (mget (metM l) n).getD false = decide (n ∈ l) := by
  refine set_ind (fun l => (mget (metM l) n).getD false = decide (n ∈ l)) (by simp [metM, mget]) (fun l r ih => ?_) l
  rw [met_on]
  by_cases e : n = r
  · subst e; rw [mu_get]; simp
  · rw [mu_get_ne e, ih]; simp [e]
/-- The last one of those that rise. -/
def lastV (a : Int) (l : List Int) : Int := (l.getLast?).getD a
theorem last_on14 : lastV a (l ++ [n]) = n := by simp [lastV]
theorem last_cons {b : Int} : lastV a (b :: l) = lastV b l := by unfold lastV; rw [List.getLast?_cons]; rfl
theorem up_app : ∀ {l : List Int} {a : Int}, upB a (l ++ [n]) = (upB a l && decide (lastV a l < n ∧ n ≤ 16))
  | [], a => by simp only [List.nil_append, upB, lastV, List.getLast?_nil, Option.getD_none, Bool.and_true, Bool.true_and]; exact decide_eq_decide.2 Iff.rfl
  | b :: l, a => by
    simp only [List.cons_append, upB]
    rw [up_app, Bool.and_assoc, last_cons]
theorem ids_app : ∀ {l : List Int} {a : Int}, idsB a (l ++ [n]) = (idsB a l && decide (lastV a l < n ∧ n ≤ 8))
  | [], a => by simp only [List.nil_append, idsB, lastV, List.getLast?_nil, Option.getD_none, Bool.and_true, Bool.true_and]; exact decide_eq_decide.2 Iff.rfl
  | b :: l, a => by
    simp only [List.cons_append, idsB]
    rw [ids_app, Bool.and_assoc, last_cons]
theorem up_onT (h : upB 0 (l.take j) = true) (hx : l[j]? = some n) (e : lastV 0 (l.take j) < n ∧ n ≤ 16) : upB 0 (l.take (j + 1)) = true := by
  rw [take_one hx, up_app, h, decide_eq_true e]; rfl
theorem last_onT (hx : l[j]? = some n) : lastV a (l.take (j + 1)) = n := by rw [take_one hx, last_on14]
theorem up_pre : ∀ {l t : List Int} {a : Int}, upB a (l ++ t) = true → upB a l = true
  | [], _, _, _ => rfl
  | b :: l, t, a, h => by
    simp only [List.cons_append, upB, Bool.and_eq_true] at h ⊢
    exact ⟨h.1, up_pre h.2⟩
theorem ids_pre : ∀ {l t : List Int} {a : Int}, idsB a (l ++ t) = true → idsB a l = true
  | [], _, _, _ => rfl
  | b :: l, t, a, h => by
    simp only [List.cons_append, idsB, Bool.and_eq_true] at h ⊢
    exact ⟨h.1, ids_pre h.2⟩
theorem up_bad (hx : l[j]? = some n) (e : ¬ (lastV 0 (l.take j) < n ∧ n ≤ 16)) : mayB l = false := by
  cases h : mayB l with
  | false => rfl
  | true =>
    simp only [mayB, Bool.and_eq_true] at h
    have h1 : upB 0 (l.take (j + 1)) = true := up_pre (t := l.drop (j + 1)) (by rw [List.take_append_drop]; exact h.1)
    rw [take_one hx, up_app, Bool.and_eq_true, decide_eq_true_eq] at h1
    exact absurd h1.2 e
theorem may_end (h : upB 0 (l.take j) = true) (hj : l.length ≤ j) : mayB l = decide (2 ≤ l.length ∧ l.length ≤ 8) := by
  rw [List.take_of_length_le hj] at h
  rw [mayB, h]; rfl
theorem may_yes (h : upB 0 (l.take j) = true) (hj : l.length ≤ j) (e : 2 ≤ l.length ∧ l.length ≤ 8) : mayB l = true := by rw [may_end h hj]; exact decide_eq_true e
theorem may_no (h : upB 0 (l.take j) = true) (hj : l.length ≤ j) (e : ¬ (2 ≤ l.length ∧ l.length ≤ 8)) : mayB l = false := by rw [may_end h hj]; exact decide_eq_false e
theorem may_len (h : mayB l = true) : 2 ≤ l.length ∧ l.length ≤ 8 := by
  simp only [mayB, Bool.and_eq_true, decide_eq_true_eq] at h
  exact h.2
theorem gang_pre (h : gangB gs = true) (j : Nat) : idsB 0 ((gs.take j).map (·.1)) = true ∧ (∀ g ∈ gs, mayB g.2 = true) ∧ (memL gs).Nodup := by
  simp only [gangB, Bool.and_eq_true, List.all_eq_true, decide_eq_true_eq] at h
  refine ⟨ids_pre (t := (gs.drop j).map (·.1)) ?_, h.1.2, h.2⟩
  rw [← List.map_append, List.take_append_drop]
  exact h.1.1
theorem gang_ids (hx : gs[j]? = some g) (e : ¬ (lastV 0 ((gs.take j).map (·.1)) < g.1 ∧ g.1 ≤ 8)) : gangB gs = false := by
  cases h : gangB gs with
  | false => rfl
  | true =>
    have := (gang_pre h (j + 1)).1
    rw [take_one hx, List.map_append, List.map_cons, List.map_nil, ids_app, Bool.and_eq_true, decide_eq_true_eq] at this
    exact absurd this.2 e
theorem gang_may (hx : gs[j]? = some g) (e : mayB g.2 = false) : gangB gs = false := by
  cases h : gangB gs with
  | false => rfl
  | true => have := (gang_pre h 0).2.1 g (List.mem_of_getElem? hx); rw [e] at this; cases this
theorem memL_take (hx : gs[j]? = some g) : memL gs = memL (gs.take j) ++ (g.2 ++ memL (gs.drop (j + 1))) := by
  have h1 : gs = gs.take j ++ g :: gs.drop (j + 1) := by
    obtain ⟨hl, he⟩ := List.getElem?_eq_some_iff.1 hx
    rw [← he, ← List.drop_eq_getElem_cons hl, List.take_append_drop]
  conv => lhs; rw [h1]
  simp [memL]
theorem gang_twice (hx : gs[j]? = some g) (hn : g.2[i]? = some n) (e : decide (n ∈ memL (gs.take j) ++ g.2.take i) = true) : gangB gs = false := by
  cases h : gangB gs with
  | false => rfl
  | true =>
    have hd := (gang_pre h 0).2.2
    rw [memL_take hx] at hd
    have hm := of_decide_eq_true e
    obtain ⟨h1, h2, h3⟩ := List.nodup_append.1 hd
    obtain ⟨h4, _, _⟩ := List.nodup_append.1 h2
    rcases List.mem_append.1 hm with e1 | e1
    · exact absurd rfl (h3 n e1 n (List.mem_append_left _ (List.mem_of_getElem? hn)))
    · obtain ⟨k, hk⟩ := List.mem_iff_getElem?.1 e1
      rw [List.getElem?_take] at hk
      split at hk
      · rename_i hki
        obtain ⟨l1, e1⟩ := List.getElem?_eq_some_iff.1 hk
        obtain ⟨l2, e2⟩ := List.getElem?_eq_some_iff.1 hn
        have := (List.getElem_inj h4).1 (e1.trans e2.symm)
        omega
      · cases hk
theorem memL_onT (hx : gs[j]? = some g) : memL (gs.take (j + 1)) = memL (gs.take j) ++ g.2 := by rw [take_one hx]; simp [memL]
theorem ids_onT (h : idsB 0 ((gs.take j).map (·.1)) = true) (hx : gs[j]? = some g) (e : lastV 0 ((gs.take j).map (·.1)) < g.1 ∧ g.1 ≤ 8) : idsB 0 ((gs.take (j + 1)).map (·.1)) = true := by
  rw [take_one hx, List.map_append, List.map_cons, List.map_nil, ids_app, h, decide_eq_true e]; rfl
theorem lastid_onT (hx : gs[j]? = some g) : lastV a ((gs.take (j + 1)).map (·.1)) = g.1 := by rw [take_one hx, List.map_append, List.map_cons, List.map_nil, last_on14]
theorem gang_end (h1 : idsB 0 ((gs.take j).map (·.1)) = true) (h2 : ∀ g ∈ gs.take j, mayB g.2 = true) (h3 : (memL (gs.take j)).Nodup) (hj : gs.length ≤ j) : gangB gs = true := by
  rw [List.take_of_length_le hj] at h1 h2 h3
  rw [gangB, h1, List.all_eq_true.2 h2, decide_eq_true h3]; rfl
theorem nodup_more {l : List Int} (h : l.Nodup) (e : decide (n ∈ l) = false) : (l ++ [n]).Nodup := by
  rw [List.nodup_append]
  exact ⟨h, by simp, fun a ha b hb e2 => by simp at hb; subst hb; subst e2; exact of_decide_eq_false e ha⟩
theorem val_at (hx : al[j]? = some x) : (al.map GngA.val)[j]? = some (x.id, x.l) := by rw [List.getElem?_map, hx]; rfl
end
end Go.Proofs.YtahccegfahghfaaDoor

/-! Which gangs may be. -/
namespace Go.Proofs.YtahccegfahghfaaDoor
open Go Go.RowKit

set_option maxRecDepth 100000 in
theorem may_t (p : Option Addr) (n cap : Nat) (l : List Int) (w : World)
 (hsl : Sv w p l) (hn : n = l.length) (hb : n ≤ 1000)
 : Calls Tryd.prog 27 #[.slice p n cap] w fun e w' => e = .returned (.bool (mayB l)) ∧ Below w.heap.size w w' := by
 refine enter (Hs.start w) Tryd.func27 rfl Tryd.ntmps27 rfl (sq_ (qa0 [] [0] [] (ds_ (sq_ (qa0 [] [0] [(3, .int .i64 0)] (ds_ (sq_ (sq_ (qa0 [] [0, 3] [(6, .slice p n cap), (7, .int .i64 (n : Nat)), (8, .int .i64 0)] (ds_ (at_block (at_loop (α := Nat × Int) [0, 3, 6, 7, 8] (fun ⟨j, c⟩ => [(0, .slice p n cap), (3, .int .i64 c), (6, .slice p n cap), (7, .int .i64 (n : Nat)), (8, .int .i64 (j : Nat))]) (fun ⟨j, c⟩ => []) (fun ⟨j, c⟩ => j ≤ n ∧ c = lastV 0 (l.take j) ∧ upB 0 (l.take j) = true) (fun ⟨j, c⟩ => n - j) (0, 0) (by kernel_rfl) rfl ⟨Nat.zero_le _, rfl, rfl⟩ ?_))))))))))))
 rintro ⟨j, c⟩
 rintro ⟨hj, hc, hI⟩
 refine sq_ ?_
 by_cases q5 : ((j : Nat) : Int) < ((n : Nat) : Int)
 ·
  refine qa [(0, .yes)] [0, 3, 6, 7, 8] [(9, .bool true)] ([((j : Nat) : Int) < ((n : Nat) : Int)]) (al1 q5) (ds_ (sq_ (t_ (at_skip (ds_ (sq_ (at_block (sq_ ?_))))))))
  obtain ⟨b8, o8, rfl⟩ := hsl.pos (i := j) (by omega)
  obtain ⟨x10, hx10⟩ := get_some (l := l) (m := j) (by omega)
  refine qa [(0, .at b8 o8 j), (1, .go (outs b8 (o8 + j * 1) [.int .i64 x10]))] [0, 3, 6, 7, 8] [(5, .int .i64 x10)] ([(some ⟨b8, o8, none⟩ : Option Addr) = some ⟨b8, o8, none⟩, (j : Nat) = ((j : Nat) : Int), j < n] ++ (cellsP w b8 (o8 + j * 1) [.int .i64 x10])) (alA (al2 rfl (al2 rfl (al1 (by omega)))) (rd_pre (hsl.get hx10) _ rfl)) (ds_ (sq_ (sq_ ?_)))
  by_cases q13 : (x10 : Int) ≤ (c : Int)
  ·
   refine qa [(2, .yes)] [0, 5, 6, 7, 8] [(18, .bool true)] ([(x10 : Int) ≤ (c : Int)]) (al1 q13) (ds_ (t_ (sq_ (qa0 [] [] [(2, .bool false)] (ds_ (rt ([]) (.bool false) ?_))))))
   exact fun w' hw => ⟨by rw [up_bad hx10 (by rw [← hc]; omega)], hw.below⟩
  ·
   by_cases q17 : (x10 : Int) > (16 : Int)
   ·
    refine qa [(2, .no), (5, .yes)] [0, 5, 6, 7, 8] [(18, .bool true)] ([¬ ((x10 : Int) ≤ (c : Int))] ++ ([(x10 : Int) > (16 : Int)])) (alA (al1 q13) (al1 q17)) (ds_ (t_ (sq_ (qa0 [] [] [(2, .bool false)] (ds_ (rt ([]) (.bool false) ?_))))))
    exact fun w' hw => ⟨by rw [up_bad hx10 (by rw [← hc]; omega)], hw.below⟩
   ·
    refine qa [(2, .no), (5, .no)] [0, 5, 6, 7, 8] [(18, .bool false)] ([¬ ((x10 : Int) ≤ (c : Int))] ++ ([¬ ((x10 : Int) > (16 : Int))])) (alA (al1 q13) (al1 q17)) (ds_ (f_ (at_skip (ds_ (qa0 [] [0, 6, 7, 8] [(3, .int .i64 x10)] (done_block (ds_ (qa [(0, .fit)] [0, 3, 6, 7] [(8, .int .i64 (j + 1 : Nat))] ([Fit .i64 ((j + 1 : Nat))]) (al1 (fit64 (by omega) (by omega))) ?_))))))))
    exact dr [0, 3, 6, 7, 8] (j + 1, x10) ⟨by omega, (last_onT hx10).symm, up_onT hI hx10 (by rw [← hc]; omega)⟩
 ·
  refine qa [(0, .no)] [0, 3, 6, 7, 8] [(9, .bool false)] ([¬ (((j : Nat) : Int) < ((n : Nat) : Int))]) (al1 q5) (ds_ (sq_ (f_ (at_leave _ rfl (ds_ (sq_ ?_))))))
  by_cases q25 : ((n : Nat) : Int) ≥ (2 : Int)
  ·
   by_cases q27 : ((n : Nat) : Int) ≤ (8 : Int)
   ·
    refine qa [(2, .yes), (6, .yes)] [] [(2, .bool true)] ([((n : Nat) : Int) ≥ (2 : Int)] ++ ([((n : Nat) : Int) ≤ (8 : Int)])) (alA (al1 q25) (al1 q27)) (ds_ (rt ([]) (.bool true) ?_))
    exact fun w' hw => ⟨by rw [may_yes hI (by omega) (by omega)], hw.below⟩
   ·
    refine qa [(2, .yes), (6, .no)] [] [(2, .bool false)] ([((n : Nat) : Int) ≥ (2 : Int)] ++ ([¬ (((n : Nat) : Int) ≤ (8 : Int))])) (alA (al1 q25) (al1 q27)) (ds_ (rt ([]) (.bool false) ?_))
    exact fun w' hw => ⟨by rw [may_no hI (by omega) (by omega)], hw.below⟩
  ·
   refine qa [(2, .no)] [] [(2, .bool false)] ([¬ (((n : Nat) : Int) ≥ (2 : Int))]) (al1 q25) (ds_ (rt ([]) (.bool false) ?_))
   exact fun w' hw => ⟨by rw [may_no hI (by omega) (by omega)], hw.below⟩

set_option maxRecDepth 100000 in
theorem gcheck_t (q : Option Addr) (m capq : Nat) (al : List GngA) (w : World)
 (hal : Sv w q al) (hma : m = al.length) (hbm : m ≤ 1000) (hnm : ∀ x ∈ al, x.Reads w) (hm9 : ∀ x ∈ al, x.n ≤ 1000)
 : Calls Tryd.prog 45 #[.agg #[.slice q m capq]] w fun e w' => e = .returned (.int .i64 (if gangB (al.map GngA.val) = true then 0 else 240)) ∧ Below w.heap.size w w' := by
 refine enter (Hs.start w) Tryd.func45 rfl Tryd.ntmps45 rfl (sq_ (ma0 [] [] (fun γ1 => [(1, .pointer (some ⟨γ1 0, 0, none⟩))]) (fun γ1 L => bx (γ1 0) (#[.slice q m capq]) 36 :: L) (fun γ1 => ds_ (sq_ (ma0 [] [1] (fun γ2 => [(3, .map (some (γ2 0)))]) (fun γ2 L => (γ2 0, .map #[] 0) :: L) (fun γ2 => ds_ (sq_ (qa0 [] [1, 3] [(4, .int .i64 0)] (ds_ (sq_ (sq_ (qa0 [(1, .go (owns 1 0 1))] [3, 4] [(11, .slice q m capq), (12, .int .i64 (m : Nat)), (13, .int .i64 0)] (ds_ (at_block (At.pick [[(γ2 0, .map #[] 0)], [bx (γ1 0) (#[.slice q m capq]) 36]] [0] [1] ([(γ2 0, .map #[] 0)]) (by kernel_rfl) rfl rfl (at_loop (α := Nat × Int × Array MapEntry × Nat) [3, 4, 11, 12, 13] (fun ⟨j, c, eD, kD⟩ => [(3, .map (some (γ2 0))), (4, .int .i64 c), (11, .slice q m capq), (12, .int .i64 (m : Nat)), (13, .int .i64 (j : Nat))]) (fun ⟨j, c, eD, kD⟩ => [(γ2 0, .map eD kD)]) (fun ⟨j, c, eD, kD⟩ => j ≤ m ∧ c = lastV 0 (((al.map GngA.val).take j).map (·.1)) ∧ idsB 0 (((al.map GngA.val).take j).map (·.1)) = true ∧ (∀ g ∈ (al.map GngA.val).take j, mayB g.2 = true) ∧ (memL ((al.map GngA.val).take j)).Nodup ∧ MapIs .i64 Value.bool eD (metM (memL ((al.map GngA.val).take j)))) (fun ⟨j, c, eD, kD⟩ => m - j) (0, 0, #[], 0) (by kernel_rfl) rfl ⟨Nat.zero_le _, rfl, rfl, all_take0T, List.nodup_nil, MapIs.nil⟩ ?_))))))))))))))))
 rintro ⟨j, c, eD, kD⟩
 rintro ⟨hj, hc, hI, hA, hN, hmD⟩
 refine sq_ ?_
 by_cases q6 : ((j : Nat) : Int) < ((m : Nat) : Int)
 ·
  refine qa [(0, .yes)] [3, 4, 11, 12, 13] [(14, .bool true)] ([((j : Nat) : Int) < ((m : Nat) : Int)]) (al1 q6) (ds_ (sq_ (t_ (at_skip (ds_ (sq_ (at_block (sq_ ?_))))))))
  obtain ⟨b9, o9, rfl⟩ := hal.pos (i := j) (by omega)
  obtain ⟨x11, hx11⟩ := get_some (l := al) (m := j) (by omega)
  have hsx11 : Sv w x11.p x11.l := (hnm x11 (List.mem_of_getElem? hx11)).sv
  have hnx11 : x11.n = x11.l.length := (hnm x11 (List.mem_of_getElem? hx11)).hn
  have hm9x11 := hm9 x11 (List.mem_of_getElem? hx11)
  refine ma [(0, .at b9 o9 j), (1, .go (outs b9 (o9 + j * 2) [.int .i64 x11.id, .slice x11.p x11.n x11.cap])), (3, .go (owns 0 0 2))] [3, 4, 11, 12, 13] (fun γ12 => [(6, .pointer (some ⟨γ12 0, 0, none⟩))]) (fun γ12 L => bx (γ12 0) (#[.int .i64 x11.id, .slice x11.p x11.n x11.cap]) 62 :: L) (fun γ12 => [(some ⟨b9, o9, none⟩ : Option Addr) = some ⟨b9, o9, none⟩, (j : Nat) = ((j : Nat) : Int), j < m] ++ (cellsP w b9 (o9 + j * 2) [.int .i64 x11.id, .slice x11.p x11.n x11.cap])) (fun γ12 => (alA (al2 rfl (al2 rfl (al1 (by omega)))) (rd_pre (hal.get hx11) _ rfl))) (fun γ12 => ds_ (sq_ (sq_ ?_)))
  by_cases q14 : (x11.id : Int) ≤ (c : Int)
  ·
   refine qa [(1, .go (owns 0 0 1)), (3, .yes)] [3, 6, 11, 12, 13] [(31, .bool true)] ([(x11.id : Int) ≤ (c : Int)]) (al1 q14) (ds_ (t_ (sq_ (qa0 [] [] [(2, .int .i64 240)] (ds_ (rt ([]) (.int .i64 240) ?_))))))
   exact fun w' hw => ⟨by rw [gang_ids (val_at hx11) (by rw [← hc]; show ¬ (c < x11.id ∧ x11.id ≤ 8); omega)]; rfl, hw.below⟩
  ·
   by_cases q18 : (x11.id : Int) > (8 : Int)
   ·
    refine qa [(1, .go (owns 0 0 1)), (3, .no), (6, .go (owns 0 0 1)), (7, .yes)] [3, 6, 11, 12, 13] [(31, .bool true)] ([¬ ((x11.id : Int) ≤ (c : Int))] ++ ([(x11.id : Int) > (8 : Int)])) (alA (al1 q14) (al1 q18)) (ds_ (t_ (sq_ (qa0 [] [] [(2, .int .i64 240)] (ds_ (rt ([]) (.int .i64 240) ?_))))))
    exact fun w' hw => ⟨by rw [gang_ids (val_at hx11) (by rw [← hc]; show ¬ (c < x11.id ∧ x11.id ≤ 8); omega)]; rfl, hw.below⟩
   ·
    refine ao_ (qo 12 [(1, .go (owns 0 0 1)), (3, .no), (6, .go (owns 0 0 1)), (7, .no), (11, .go (owns 0 1 1))] [3, 6, 11, 12, 13] [(26, .bool false), (28, .slice x11.p x11.n x11.cap)] ([¬ ((x11.id : Int) ≤ (c : Int))] ++ ([¬ ((x11.id : Int) > (8 : Int))])) (alA (al1 q14) (al1 q18)) ?_)
    rcases q22 : mayB x11.l with _ | _
    ·
     refine cD (.bool false) (fun args w => Tryd.call27 args w) (fun w hw => by have := may_t x11.p x11.n x11.cap x11.l w (hsx11.kept hw.below) hnx11 (by omega); rw [q22] at this; exact this) (qo0 2 [] [3, 6, 11, 12, 13] [(31, .bool true)] (on_ (ds_ (t_ (sq_ (qa0 [] [] [(2, .int .i64 240)] (ds_ (rt ([]) (.int .i64 240) ?_))))))))
     exact fun w' hw => ⟨by rw [gang_may (val_at hx11) q22]; rfl, hw.below⟩
    ·
     refine cD (.bool true) (fun args w => Tryd.call27 args w) (fun w hw => by have := may_t x11.p x11.n x11.cap x11.l w (hsx11.kept hw.below) hnx11 (by omega); rw [q22] at this; exact this) (qo0 2 [] [3, 6, 11, 12, 13] [(31, .bool false)] (on_ (ds_ (f_ (at_skip (ds_ (sq_ (qa0 [(1, .go (owns 0 0 1))] [3, 6, 11, 12, 13] [(4, .int .i64 x11.id)] (ds_ (sq_ (qa0 [(1, .go (owns 0 1 1))] [3, 4, 11, 12, 13] [(35, .slice x11.p x11.n x11.cap), (36, .int .i64 (x11.n : Nat)), (37, .int .i64 0)] (ds_ (at_block (At.pick [[bx (γ12 0) (#[.int .i64 x11.id, .slice x11.p x11.n x11.cap]) 62], [(γ2 0, .map eD kD)]] [1] [0] ([(γ2 0, .map eD kD)]) (by kernel_rfl) rfl rfl (at_loop (α := Nat × Array MapEntry × Nat) [3, 4, 11, 12, 13, 35, 36, 37] (fun ⟨i, eI, kI⟩ => [(3, .map (some (γ2 0))), (4, .int .i64 x11.id), (11, .slice (some ⟨b9, o9, none⟩) m capq), (12, .int .i64 (m : Nat)), (13, .int .i64 (j : Nat)), (35, .slice x11.p x11.n x11.cap), (36, .int .i64 (x11.n : Nat)), (37, .int .i64 (i : Nat))]) (fun ⟨i, eI, kI⟩ => [(γ2 0, .map eI kI)]) (fun ⟨i, eI, kI⟩ => i ≤ x11.n ∧ (memL ((al.map GngA.val).take j) ++ x11.l.take i).Nodup ∧ MapIs .i64 Value.bool eI (metM (memL ((al.map GngA.val).take j) ++ x11.l.take i))) (fun ⟨i, eI, kI⟩ => x11.n - i) (0, eD, kD) (by kernel_rfl) rfl ⟨Nat.zero_le _, by rw [List.take_zero, List.append_nil]; exact hN, by rw [List.take_zero, List.append_nil]; exact hmD⟩ ?_)))))))))))))))
     rintro ⟨i, eI, kI⟩
     rintro ⟨hi, hN2, hmI⟩
     refine sq_ ?_
     by_cases q29 : ((i : Nat) : Int) < ((x11.n : Nat) : Int)
     ·
      refine qa [(0, .yes)] [3, 4, 11, 12, 13, 35, 36, 37] [(38, .bool true)] ([((i : Nat) : Int) < ((x11.n : Nat) : Int)]) (al1 q29) (ds_ (sq_ (t_ (at_skip (ds_ (sq_ (at_block (sq_ ?_))))))))
      obtain ⟨b32, o32, hbo32⟩ := hsx11.pos (i := i) (by omega)
      have hsv32 := hsx11
      rw [hbo32] at hsv32
      obtain ⟨x34, hx34⟩ := get_some (l := x11.l) (m := i) (by omega)
      refine qa [(0, .at b32 o32 i), (1, .go (outs b32 (o32 + i * 1) [.int .i64 x34]))] [3, 4, 11, 12, 13, 35, 36, 37] [(8, .int .i64 x34)] ([(x11.p : Option Addr) = some ⟨b32, o32, none⟩, (i : Nat) = ((i : Nat) : Int), i < x11.n] ++ (cellsP w b32 (o32 + i * 1) [.int .i64 x34])) (alA (al2 hbo32 (al2 rfl (al1 (by omega)))) (rd_pre (hsv32.get hx34) _ rfl)) (ds_ (sq_ (sq_ (ao_ (qo0 2 [] [3, 4, 8, 11, 12, 13, 35, 36, 37] [(41, .map (some (γ2 0))), (42, .int .i64 x34)] (ops_lookup (ik := .i64) (enc := Value.bool) (kk := x34) 0 (Value.bool false) (.bool ((mget (metM (memL ((al.map GngA.val).take j) ++ x11.l.take i)) x34).getD false)) rfl (by kernel_rfl) (by kernel_rfl) (by kernel_rfl) (by kernel_rfl) (⟨3, 4, by kernel_rfl, by kernel_rfl, by kernel_rfl⟩ : mapB Tryd.prog 71 .i64 (Value.bool false)) rfl hmI (map_getD _ _ _) (on_ (ds_ ?_))))))))
      rcases q38 : (mget (metM (memL ((al.map GngA.val).take j) ++ x11.l.take i)) x34).getD false with _ | _
      ·
       refine f_ (at_skip (ds_ (ao_ (qo0 2 [] [3, 4, 11, 12, 13, 35, 36, 37] [(44, .map (some (γ2 0))), (45, .int .i64 x34)] (ops_update (ik := .i64) (enc := Value.bool) (kk := x34) 0 true (Value.bool false) rfl (by kernel_rfl) (by kernel_rfl) (by kernel_rfl) (by kernel_rfl) (by kernel_rfl) (⟨3, 4, by kernel_rfl, by kernel_rfl, by kernel_rfl⟩ : mapB Tryd.prog 71 .i64 (Value.bool false)) rfl hmI (fun es40 ck40 hM40 => on_ (done_block (ds_ (qa [(0, .fit)] [3, 4, 11, 12, 13, 35, 36] [(37, .int .i64 (i + 1 : Nat))] ([Fit .i64 ((i + 1 : Nat))]) (al1 (fit64 (by omega) (by omega))) ?_)))))))))
       exact dr [3, 4, 11, 12, 13, 35, 36, 37] (i + 1, es40, ck40) ⟨by omega, by rw [take_one hx34, ← List.append_assoc]; exact nodup_more hN2 (by rw [← met_get]; exact q38), by rw [take_one hx34, ← List.append_assoc, met_on]; exact hM40⟩
      ·
       refine t_ (sq_ (qa0 [] [] [(2, .int .i64 240)] (ds_ (rt ([]) (.int .i64 240) ?_))))
       exact fun w' hw => ⟨by rw [gang_twice (val_at hx11) hx34 (by rw [← met_get]; exact q38)]; rfl, hw.below⟩
     ·
      refine qa [(0, .no)] [3, 4, 11, 12, 13, 35, 36, 37] [(38, .bool false)] ([¬ (((i : Nat) : Int) < ((x11.n : Nat) : Int))]) (al1 q29) (ds_ (sq_ (f_ (at_leave _ rfl (done_block (ds_ (qa [(0, .fit)] [3, 4, 11, 12] [(13, .int .i64 (j + 1 : Nat))] ([Fit .i64 ((j + 1 : Nat))]) (al1 (fit64 (by omega) (by omega))) ?_)))))))
      rw [show x11.l.take i = x11.l from List.take_of_length_le (by omega)] at hN2 hmI
      exact dr [3, 4, 11, 12, 13] (j + 1, x11.id, eI, kI) ⟨by omega, (lastid_onT (val_at hx11)).symm, ids_onT hI (val_at hx11) (by rw [← hc]; show c < x11.id ∧ x11.id ≤ 8; omega), all_onT hA (val_at hx11) q22, by rw [memL_onT (val_at hx11)]; exact hN2, by rw [memL_onT (val_at hx11)]; exact hmI⟩
 ·
  refine qa [(0, .no)] [3, 4, 11, 12, 13] [(14, .bool false)] ([¬ (((j : Nat) : Int) < ((m : Nat) : Int))]) (al1 q6) (ds_ (sq_ (f_ (at_leave _ rfl (ds_ (sq_ (qa0 [] [] [(2, .int .i64 0)] (ds_ (rt ([]) (.int .i64 0) ?_)))))))))
  exact fun w' hw => ⟨by rw [gang_end hI hA hN (by rw [List.length_map]; omega)]; rfl, hw.below⟩
end Go.Proofs.YtahccegfahghfaaDoor

/-! Where a virtual CPU's gang is. -/
namespace Go.Proofs.YtahccegfahghfaaDoor
open Go Go.RowKit

/-- The virtual CPU is in this gang. -/
def hasG (k : Int) (x : GngA) : Bool := decide (k ∈ x.l)
/-- It is in one of these. -/
def inG (al : List GngA) (k : Int) : Bool := decide (0 ≤ idxF (hasG k) al)
theorem any_none {α : Type} {l : List α} {pd : α → Bool} (h : ∀ x ∈ l, pd x = false) : l.any pd = false := List.any_eq_false.2 fun x hx => by rw [h x hx]; exact Bool.false_ne_true
theorem rd_one14 {w : World} {g : Nat} {v : Value} {T : TypeId} {f : Nat × Nat} (h : w.heap[g]? = some (.cells #[v] T f)) : Rd w g (0 + 0 * 1) [v] := fun j u hj => by
  match j, hj with
  | 0, hj => rw [show (⟨g, 0 + 0 * 1 + 0, none⟩ : Addr) = ⟨g, 0, none⟩ from rfl, cell_own h]; simpa using hj

set_option maxRecDepth 100000 in
theorem place1_t (x : GngA) (g : Nat) (k : Int) (w : World)
    (hk : Rd w g (0 + 0 * 1) [.int .i64 k]) (hsx : Sv w x.p x.l) (hnx : x.n = x.l.length) (hm9x : x.n ≤ 1000)
    : Calls Tryd.prog 49 #[.agg #[.int .i64 x.id, .slice x.p x.n x.cap], .pointer (some ⟨g, 0 + 0 * 1, none⟩)] w fun e w' => e = .returned (.bool (hasG k x)) ∧ Below w.heap.size w w' := by
  refine enter (Hs.start w) Tryd.func49 rfl Tryd.ntmps49 rfl (sq_ (ma0 [] [1] (fun γ1 => [(2, .pointer (some ⟨γ1 0, 0, none⟩))]) (fun γ1 L => bx (γ1 0) (#[.int .i64 x.id, .slice x.p x.n x.cap]) 62 :: L) (fun γ1 => ds_ (sq_ (ao_ (qo 3 [(1, .go (owns 0 1 1)), (2, .go (outs g (0 + 0 * 1) [.int .i64 k]))] [] [(5, .slice x.p x.n x.cap), (6, .int .i64 k)] (cellsP w g (0 + 0 * 1) [.int .i64 k]) (rd_pre hk _ rfl) ?_))))))
  rcases q3 : decide (k ∈ x.l) with _ | _
  ·
    refine cD (.bool false) (fun args w => Tryd.call35 args w) (fun w hw => by have := contains_t x.p x.n x.cap x.l k w (hsx.kept hw.below) hnx (by omega); rw [q3] at this; exact this) (qo0 1 [] [] [(3, .bool false)] (on_ (ds_ (rt ([]) (.bool false) ?_))))
    exact fun w' hw => ⟨by rw [show hasG k x = false from q3], hw.below⟩
  ·
    refine cD (.bool true) (fun args w => Tryd.call35 args w) (fun w hw => by have := contains_t x.p x.n x.cap x.l k w (hsx.kept hw.below) hnx (by omega); rw [q3] at this; exact this) (qo0 1 [] [] [(3, .bool true)] (on_ (ds_ (rt ([]) (.bool true) ?_))))
    exact fun w' hw => ⟨by rw [show hasG k x = true from q3], hw.below⟩

set_option maxRecDepth 100000 in
theorem gindexf_t (w0 : World) (X : List Ob) (pg : FuncId) (pcb : Array Value) (pd : GngA → Bool) (p : Option Addr) (n cap : Nat) (l : List GngA) (w : World)
    (he : ∀ args w, (callFunc pg args).run Tryd.prog w = .ok (.enter pg args) w)
    (hX : Hs w0 X w) (hsl : Sv w p l) (hn : n = l.length) (hb : n ≤ 4611686018427387903)
    (hc : ∀ x ∈ l, ∀ w', Hs w0 X w' → Calls Tryd.prog pg (#[.agg #[.int .i64 x.id, .slice x.p x.n x.cap]] ++ pcb) w' fun e w1 => e = .returned (.bool (pd x)) ∧ Below w'.heap.size w' w1)
    : Calls Tryd.prog 48 #[.slice p n cap, .func (.func pg) #[] pcb] w fun e w' => e = .returned (.int .i64 (idxF pd l)) ∧ Below w.heap.size w w' := by
  refine enter (Hs.start w) Tryd.func48 rfl Tryd.ntmps48 rfl (sq_ (qa0 [] [0, 1] [] (ds_ (sq_ (sq_ (qa0 [] [0, 1] [(7, .int .i64 (n : Nat)), (8, .int .i64 0)] (ds_ (at_block (at_loop (α := Nat) [0, 1, 7, 8] (fun j => [(0, .slice p n cap), (1, .func (.func pg) #[] pcb), (7, .int .i64 (n : Nat)), (8, .int .i64 (j : Nat))]) (fun j => []) (fun j => j ≤ n ∧ ∀ (t : Nat) (y : GngA), t < j → l[t]? = some y → pd y = false) (fun j => n - j) 0 (by kernel_rfl) rfl ⟨Nat.zero_le _, fun t y h => by omega⟩ ?_)))))))))
  rintro j
  rintro ⟨hj, hI⟩
  refine sq_ ?_
  by_cases q4 : ((j : Nat) : Int) < ((n : Nat) : Int)
  ·
    refine qa [(0, .yes)] [0, 1, 7, 8] [(9, .bool true)] ([((j : Nat) : Int) < ((n : Nat) : Int)]) (al1 q4) (ds_ (sq_ (t_ (at_skip (ds_ (sq_ (at_block (sq_ (qa0 [] [0, 1, 7, 8] [(5, .int .i64 (j : Nat))] (ds_ (sq_ ?_)))))))))))
    obtain ⟨b8, o8, rfl⟩ := hsl.pos (i := j) (by omega)
    obtain ⟨x10, hx10⟩ := get_some (l := l) (m := j) (by omega)
    refine ao_ (qo 5 [(3, .at b8 o8 j), (4, .go (outs b8 (o8 + j * 2) [.int .i64 x10.id, .slice x10.p x10.n x10.cap]))] [0, 1, 5, 7, 8] [(11, .func (.func pg) #[] pcb), (15, .agg #[.int .i64 x10.id, .slice x10.p x10.n x10.cap])] ([(some ⟨b8, o8, none⟩ : Option Addr) = some ⟨b8, o8, none⟩, (j : Nat) = ((j : Nat) : Int), j < n] ++ (cellsP w b8 (o8 + j * 2) [.int .i64 x10.id, .slice x10.p x10.n x10.cap])) (alA (al2 rfl (al2 rfl (al1 (by omega)))) (rd_pre (hsl.get hx10) _ rfl)) ?_)
    rcases q12 : pd x10 with _ | _
    ·
      refine cD (.bool false) he (fun w hw => by have := hc x10 (List.mem_of_getElem? hx10) w (hX.kept hw.below); rw [q12] at this; exact this) (on_ (ds_ (f_ (at_skip (done_block (ds_ (qa [(0, .fit)] [0, 1, 7] [(8, .int .i64 (j + 1 : Nat))] ([Fit .i64 ((j + 1 : Nat))]) (al1 (fit64 (by omega) (by omega))) ?_)))))))
      exact done_round [0, 1, 7, 8] (j + 1) (by kernel_rfl) rfl ⟨by omega, fun t y ht e => by
          by_cases htj : t = j
          · subst htj; rw [hx10] at e; cases e; exact q12
          · exact hI t y (by omega) e⟩ (by first | omega | (simp only; omega))
    ·
      refine cD (.bool true) he (fun w hw => by have := hc x10 (List.mem_of_getElem? hx10) w (hX.kept hw.below); rw [q12] at this; exact this) (on_ (ds_ (t_ (sq_ (qa0 [] [] [(4, .int .i64 (j : Nat))] (ds_ (rt ([]) (.int .i64 (j : Nat)) ?_)))))))
      exact fun w' hw => ⟨by rw [idxF_hit hI hx10 q12], hw.below⟩
  ·
    refine qa [(0, .no)] [0, 1, 7, 8] [(9, .bool false)] ([¬ (((j : Nat) : Int) < ((n : Nat) : Int))]) (al1 q4) (ds_ (sq_ (f_ (at_leave _ rfl (ds_ (sq_ (qa0 [] [] [(4, .int .i64 (-1))] (ds_ (rt ([]) (.int .i64 (-1)) ?_)))))))))
    exact fun w' hw => ⟨by rw [idxF_miss hI (by omega)], hw.below⟩

set_option maxRecDepth 100000 in
theorem place_t (q : Option Addr) (m capq : Nat) (al : List GngA) (k : Int) (w : World)
    (hal : Sv w q al) (hma : m = al.length) (hbm : m ≤ 1000) (hnm : ∀ x ∈ al, x.Reads w) (hm9 : ∀ x ∈ al, x.n ≤ 1000)
    : Calls Tryd.prog 30 #[.agg #[.slice q m capq], .int .i64 k] w fun e w' => e = .returned (.int .i64 (idxF (hasG k) al)) ∧ Below w.heap.size w w' := by
  refine enter (Hs.start w) Tryd.func30 rfl Tryd.ntmps30 rfl (sq_ (ma0 [] [] (fun γ1 => [(2, .pointer (some ⟨γ1 0, 0, none⟩)), (3, .pointer (some ⟨γ1 1, 0, none⟩))]) (fun γ1 L => bx (γ1 1) (#[.int .i64 k]) 3 :: bx (γ1 0) (#[.slice q m capq]) 36 :: L) (fun γ1 => ds_ (sq_ (ao_ (qo0 3 [(1, .go (owns 1 0 1))] [] [(6, .slice q m capq), (7, .func (.func 49) #[] #[.pointer (some ⟨γ1 1, 0, none⟩)])] (cD (.int .i64 (idxF (hasG k) al)) (fun args w => Tryd.call48 args w) (fun w hw => gindexf_t _ _ 49 #[.pointer (some ⟨γ1 1, 0, none⟩)] (hasG k) q m capq al w (fun args w => Tryd.call49 args w) hw (hal.kept hw.below) hma (by omega) (fun x hx w' hX => place1_t x (γ1 1) k w' (rd_one14 (hX.row 0 rfl)) ((hnm x hx).kept hX.below).sv (hnm x hx).hn (hm9 x hx))) (qo0 1 [] [] [(4, .int .i64 (idxF (hasG k) al))] (on_ (ds_ (rt ([]) (.int .i64 (idxF (hasG k) al)) ?_)))))))))))
  exact fun w' hw => ⟨rfl, hw.below⟩

set_option maxRecDepth 100000 in
theorem iindexf_t (w0 : World) (X : List Ob) (pg : FuncId) (pcb : Array Value) (pd : Int → Bool) (p : Option Addr) (n cap : Nat) (l : List Int) (w : World)
    (he : ∀ args w, (callFunc pg args).run Tryd.prog w = .ok (.enter pg args) w)
    (hX : Hs w0 X w) (hsl : Sv w p l) (hn : n = l.length) (hb : n ≤ 4611686018427387903)
    (hc : ∀ x ∈ l, ∀ w', Hs w0 X w' → Calls Tryd.prog pg (#[.int .i64 x] ++ pcb) w' fun e w1 => e = .returned (.bool (pd x)) ∧ Below w'.heap.size w' w1)
    : Calls Tryd.prog 47 #[.slice p n cap, .func (.func pg) #[] pcb] w fun e w' => e = .returned (.int .i64 (idxF pd l)) ∧ Below w.heap.size w w' := by
  refine enter (Hs.start w) Tryd.func47 rfl Tryd.ntmps47 rfl (sq_ (qa0 [] [0, 1] [] (ds_ (sq_ (sq_ (qa0 [] [0, 1] [(7, .int .i64 (n : Nat)), (8, .int .i64 0)] (ds_ (at_block (at_loop (α := Nat) [0, 1, 7, 8] (fun j => [(0, .slice p n cap), (1, .func (.func pg) #[] pcb), (7, .int .i64 (n : Nat)), (8, .int .i64 (j : Nat))]) (fun j => []) (fun j => j ≤ n ∧ ∀ (t : Nat) (y : Int), t < j → l[t]? = some y → pd y = false) (fun j => n - j) 0 (by kernel_rfl) rfl ⟨Nat.zero_le _, fun t y h => by omega⟩ ?_)))))))))
  rintro j
  rintro ⟨hj, hI⟩
  refine sq_ ?_
  by_cases q4 : ((j : Nat) : Int) < ((n : Nat) : Int)
  ·
    refine qa [(0, .yes)] [0, 1, 7, 8] [(9, .bool true)] ([((j : Nat) : Int) < ((n : Nat) : Int)]) (al1 q4) (ds_ (sq_ (t_ (at_skip (ds_ (sq_ (at_block (sq_ (qa0 [] [0, 1, 7, 8] [(5, .int .i64 (j : Nat))] (ds_ (sq_ ?_)))))))))))
    obtain ⟨b8, o8, rfl⟩ := hsl.pos (i := j) (by omega)
    obtain ⟨x10, hx10⟩ := get_some (l := l) (m := j) (by omega)
    refine ao_ (qo 5 [(3, .at b8 o8 j), (4, .go (outs b8 (o8 + j * 1) [.int .i64 x10]))] [0, 1, 5, 7, 8] [(11, .func (.func pg) #[] pcb), (15, .int .i64 x10)] ([(some ⟨b8, o8, none⟩ : Option Addr) = some ⟨b8, o8, none⟩, (j : Nat) = ((j : Nat) : Int), j < n] ++ (cellsP w b8 (o8 + j * 1) [.int .i64 x10])) (alA (al2 rfl (al2 rfl (al1 (by omega)))) (rd_pre (hsl.get hx10) _ rfl)) ?_)
    rcases q12 : pd x10 with _ | _
    ·
      refine cD (.bool false) he (fun w hw => by have := hc x10 (List.mem_of_getElem? hx10) w (hX.kept hw.below); rw [q12] at this; exact this) (on_ (ds_ (f_ (at_skip (done_block (ds_ (qa [(0, .fit)] [0, 1, 7] [(8, .int .i64 (j + 1 : Nat))] ([Fit .i64 ((j + 1 : Nat))]) (al1 (fit64 (by omega) (by omega))) ?_)))))))
      exact done_round [0, 1, 7, 8] (j + 1) (by kernel_rfl) rfl ⟨by omega, fun t y ht e => by
          by_cases htj : t = j
          · subst htj; rw [hx10] at e; cases e; exact q12
          · exact hI t y (by omega) e⟩ (by first | omega | (simp only; omega))
    ·
      refine cD (.bool true) he (fun w hw => by have := hc x10 (List.mem_of_getElem? hx10) w (hX.kept hw.below); rw [q12] at this; exact this) (on_ (ds_ (t_ (sq_ (qa0 [] [] [(4, .int .i64 (j : Nat))] (ds_ (rt ([]) (.int .i64 (j : Nat)) ?_)))))))
      exact fun w' hw => ⟨by rw [idxF_hit hI hx10 q12], hw.below⟩
  ·
    refine qa [(0, .no)] [0, 1, 7, 8] [(9, .bool false)] ([¬ (((j : Nat) : Int) < ((n : Nat) : Int))]) (al1 q4) (ds_ (sq_ (f_ (at_leave _ rfl (ds_ (sq_ (qa0 [] [] [(4, .int .i64 (-1))] (ds_ (rt ([]) (.int .i64 (-1)) ?_)))))))))
    exact fun w' hw => ⟨by rw [idxF_miss hI (by omega)], hw.below⟩

set_option maxRecDepth 100000 in
theorem containsf_t (w0 : World) (X : List Ob) (pg : FuncId) (pcb : Array Value) (pd : Int → Bool) (p : Option Addr) (n cap : Nat) (l : List Int) (w : World)
    (he : ∀ args w, (callFunc pg args).run Tryd.prog w = .ok (.enter pg args) w)
    (hX : Hs w0 X w)
    (hsl : Sv w p l) (hn : n = l.length) (hb : n ≤ 1000)
    (hc : ∀ x ∈ l, ∀ w', Hs w0 X w' → Calls Tryd.prog pg (#[.int .i64 x] ++ pcb) w' fun e w1 => e = .returned (.bool (pd x)) ∧ Below w'.heap.size w' w1)
    : Calls Tryd.prog 28 #[.slice p n cap, .func (.func pg) #[] pcb] w fun e w' => e = .returned (.bool (l.any pd)) ∧ Below w.heap.size w w' := by
  refine enter (Hs.start w) Tryd.func28 rfl Tryd.ntmps28 rfl (sq_ (qa0 [] [0, 1] [] (ds_ (sq_ (ao_ (qo0 2 [] [] [(5, .slice p n cap), (6, .func (.func pg) #[] pcb)] ?_))))))
  rcases idxF_cases pd l with ⟨hix, hnone⟩ | ⟨i0, x0, hix, hx0, hp0, hlow⟩
  ·
    refine cD (.int .i64 (-1)) (fun args w => Tryd.call47 args w) (fun w hw => by have := iindexf_t w0 X pg pcb pd p n cap l w he (hX.kept hw.below) (hsl.kept hw.below) hn (by omega) hc; rw [hix] at this; exact this) (qo0 2 [] [] [(4, .bool false)] (on_ (ds_ (rt ([]) (.bool false) ?_))))
    exact fun w' hw => ⟨by rw [any_none hnone], hw.below⟩
  ·
    refine cD (.int .i64 (i0 : Nat)) (fun args w => Tryd.call47 args w) (fun w hw => by have := iindexf_t w0 X pg pcb pd p n cap l w he (hX.kept hw.below) (hsl.kept hw.below) hn (by omega) hc; rw [hix] at this; exact this) (qo 2 [(3, .yes)] [] [(4, .bool true)] ([((i0 : Nat) : Int) ≥ (0 : Int)]) (al1 (by omega)) (on_ (ds_ (rt ([]) (.bool true) ?_))))
    exact fun w' hw => ⟨by rw [List.any_eq_true.2 ⟨x0, List.mem_of_getElem? hx0, hp0⟩], hw.below⟩

set_option maxRecDepth 100000 in
theorem form11_t (q : Option Addr) (m capq : Nat) (al : List GngA) (g3 gb : Nat) (k : Int) (w : World)
    (hal : Sv w q al) (hma : m = al.length) (hbm : m ≤ 1000) (hnm : ∀ x ∈ al, x.Reads w) (hm9 : ∀ x ∈ al, x.n ≤ 1000)
    (h3 : Rd w g3 (0 + 0 * 1) [.pointer (some ⟨gb, 0 + 0 * 1, none⟩)]) (h2 : Rd w gb (0 + 0 * 1) [.slice q m capq])
    : Calls Tryd.prog 29 #[.int .i64 k, .pointer (some ⟨g3, 0 + 0 * 1, none⟩)] w fun e w' => e = .returned (.bool (inG al k)) ∧ Below w.heap.size w w' := by
  refine enter (Hs.start w) Tryd.func29 rfl Tryd.ntmps29 rfl (sq_ (qa0 [] [0, 1] [] (ds_ (sq_ (ao_ (qo 4 [(0, .go (outs g3 (0 + 0 * 1) [.pointer (some ⟨gb, 0 + 0 * 1, none⟩)])), (2, .go (outs gb (0 + 0 * 1) [.slice q m capq]))] [] [(6, .agg #[.slice q m capq]), (7, .int .i64 k)] (cellsP w g3 (0 + 0 * 1) [.pointer (some ⟨gb, 0 + 0 * 1, none⟩)] ++ (cellsP w gb (0 + 0 * 1) [.slice q m capq])) (alA (rd_pre h3 _ rfl) (rd_pre h2 _ rfl)) (cD (.int .i64 (idxF (hasG k) al)) (fun args w => Tryd.call30 args w) (fun w hw => place_t q m capq al k w (hal.kept hw.below) hma (by omega) (fun x hx => (hnm x hx).kept hw.below) hm9) ?_)))))))
  by_cases q4 : ((idxF (hasG k) al) : Int) ≥ (0 : Int)
  ·
    refine qo 2 [(5, .yes)] [] [(3, .bool true)] ([((idxF (hasG k) al) : Int) ≥ (0 : Int)]) (al1 q4) (on_ (ds_ (rt ([]) (.bool true) ?_)))
    exact fun w' hw => ⟨by rw [show inG al k = true from decide_eq_true (by omega)], hw.below⟩
  ·
    refine qo 2 [(5, .no)] [] [(3, .bool false)] ([¬ (((idxF (hasG k) al) : Int) ≥ (0 : Int))]) (al1 q4) (on_ (ds_ (rt ([]) (.bool false) ?_)))
    exact fun w' hw => ⟨by rw [show inG al k = false from decide_eq_false (by omega)], hw.below⟩
end Go.Proofs.YtahccegfahghfaaDoor

/-! Gangs with members of their own; plain. -/
namespace Go.Proofs.YtahccegfahghfaaDoor
open Go Go.RowKit
/-- Gangs whose members lie in blocks of one's own. -/
def GotG (T : TypeId) (Yi : List Ob) (bl : List GngA) : Prop := GotR T Yi (bl.map GngA.row)
section
variable {T : TypeId} {w w0 : World} {Y Yi Y2 YX A L : List Ob} {b : Ob} {al bl : List GngA} {x y : GngA} {j : Nat}
theorem GotG.nil : GotG T [] [] := GotR.nil
theorem GotG.reads (h : GotG T Yi bl) (hw : Hs w0 L w) (hs : List.Sublist Yi L) : ∀ x ∈ bl, x.Reads w := fun _ hx => GotR.reads h hw hs _ (List.mem_map_of_mem hx)
theorem wt_get (h : bl.drop j = al.drop j) (hx : bl[j]? = some x) : al[j]? = some x := by
  have h1 : (bl.drop j)[0]? = some x := by rw [List.getElem?_drop]; exact hx
  rw [h, List.getElem?_drop] at h1
  exact h1
theorem wt_own (h : GotR T Yi ((bl.take j).map GngA.row)) (hx : bl[j]? = some x) (hy : SlO T Y y.p y.n y.cap y.l) : GotR T (Yi ++ Y) (((bl.set j y).take (j + 1)).map GngA.row) := by
  have hl := (List.getElem?_eq_some_iff.1 hx).1
  have e : (bl.set j y)[j]? = some y := List.getElem?_set_self hl
  rw [take_one e, List.take_set_of_le (Nat.le_refl j), List.map_append]
  exact GotR.snoc (x := y.row) h hy
theorem wt_drop (h : bl.drop j = al.drop j) : (bl.set j y).drop (j + 1) = al.drop (j + 1) := by
  have e : ∀ l : List GngA, l.drop (j + 1) = (l.drop j).drop 1 := fun l => by rw [List.drop_drop]
  rw [List.drop_set_of_lt (show j < j + 1 from Nat.lt_succ_self j), e bl, e al, h]
theorem wt_val (hx : bl[j]? = some x) (h : bl.map GngA.val = al.map GngA.val) (e : y.val = x.val) : (bl.set j y).map GngA.val = al.map GngA.val := by
  rw [List.map_set, e, ← h]
  apply List.ext_getElem?
  intro i
  by_cases hi : j = i
  · subst hi
    rw [List.getElem?_set_self (by rw [List.length_map]; exact (List.getElem?_eq_some_iff.1 hx).1), List.getElem?_map, hx]; rfl
  · rw [List.getElem?_set_ne hi]
theorem wt_in (h : Hs w0 (b :: (A ++ (Y ++ (Yi ++ (YX ++ []))))) w) : Hs w0 (b :: (Y ++ (Yi ++ (YX ++ A)))) w := by
  refine h.perm (.cons _ ?_)
  rw [List.append_nil, show Y ++ (Yi ++ (YX ++ A)) = (Y ++ (Yi ++ YX)) ++ A from by simp only [List.append_assoc]]
  exact List.perm_append_comm
theorem wt_out (h : Hs w0 (b :: (Y ++ (Yi ++ (YX ++ A)))) w) : Hs w0 (b :: (A ++ (Y ++ (Yi ++ (YX ++ []))))) w := by
  refine h.perm (.cons _ ?_)
  rw [List.append_nil, show Y ++ (Yi ++ (YX ++ A)) = (Y ++ (Yi ++ YX)) ++ A from by simp only [List.append_assoc]]
  exact List.perm_append_comm
theorem wt_tail (h : Hs w0 (Y ++ (Yi ++ (YX ++ []))) w) : Hs w0 (Y ++ (Yi ++ YX)) w := by rwa [List.append_nil] at h
end
end Go.Proofs.YtahccegfahghfaaDoor

/-! Gangs: slices.Clone, Insert. -/
namespace Go.Proofs.YtahccegfahghfaaDoor
open Go Go.RowKit

set_option maxRecDepth 100000 in
theorem gclone_t (p : Option Addr) (n cap : Nat) (l : List GngA) (w : World)
    (hsl : Sv w p l) (hn : n = l.length) (hb : n ≤ 1000)
    : Calls Tryd.prog 46 #[.slice p n cap] w fun e w' => ∃ q capq Y, e = .returned (.slice q n capq) ∧ SlO 62 Y q n capq l ∧ Below w.heap.size w w' ∧ Hs w Y w' := by
  refine enter (Hs.start w) Tryd.func46 rfl Tryd.ntmps46 rfl (sq_ (qa0 [] [0] [] (ds_ (sq_ (sq_ ?_)))))
  rcases p with _ | a3
  ·
    refine qa0 [] [0] [(4, .bool true)] (ds_ (t_ (sq_ (qa0 [] [] [(2, .slice none 0 0)] (ds_ (rt ([]) (.slice none 0 0) ?_))))))
    exact fun w' hw => ⟨none, 0, [], by rw [hn, hsl.none]; rfl, by rw [hn, hsl.none]; exact SlO.nil, hw.below, hw.sub (List.nil_sublist _)⟩
  ·
    refine qa0 [] [0] [(4, .bool false)] (ds_ (f_ (at_skip (ds_ (sq_ (ao_ (mo0 2 [] [] (fun γ7 => [(5, .slice (some ⟨γ7 0, 0, none⟩) 0 0), (6, .slice (some a3) n cap)]) (fun γ7 L => bx (γ7 0) (#[]) 62 :: L) (fun γ7 => ops_append (α := GngA) [] ([bx (γ7 0) (#[]) 62]) ([]) (mvE rfl) rfl (by kernel_rfl) (by kernel_rfl) (p := (some ⟨γ7 0, 0, none⟩)) (n := 0) (cap := 0) (m := n) (yv := .slice (some a3) n cap) (by kernel_rfl) (by kernel_rfl) (T := 62) (by_ := 32) (by kernel_rfl) ([]) l (SlO.lit (by rfl) (by rfl) (by simp [maxLen])) (fun w hw => src_svn Tryd.underlying34 (hsl.kept hw.below) hn) hn (by have hmx : maxLen = 9223372036854775807 := rfl; omega) (by have hmx : maxLen = 9223372036854775807 := rfl; omega) (fun Y8 p8 cap8 hO8 => qo0 1 [] [] [(2, .slice p8 (0 + n) cap8)] (on_ (ds_ (rt ([]) (.slice p8 (0 + n) cap8) ?_))))))))))))
    exact fun w' hw => ⟨_, _, _, by rw [Nat.zero_add], by simpa using hO8, hw.below, ((hw.tailN 0).sub (List.sublist_append_left Y8 ([])))⟩
set_option maxRecDepth 100000 in
theorem overlaps_findG : Extern.find Tryd.f50 = some (Extern.SlicesOverlaps.overlaps Tryd.f50.params Tryd.f50.resultTypes) := by kernel_rfl
set_option maxRecDepth 100000 in
theorem overlaps_nextG : Extern.findNext Tryd.f50 = none := by kernel_rfl
theorem overlaps_noG {w : World} {g1 o1 g2 o2 m n c1 c2 : Nat} {cs1 cs2 : Array Value} {T1 T2 : TypeId} (h1 : w.heap[g1]? = some (.cells cs1 T1 (0, 0))) (h2 : w.heap[g2]? = some (.cells cs2 T2 (0, 0))) (hne : g1 ≠ g2) :
    (callFunc 50 #[.slice (some ⟨g1, o1, none⟩) m c1, .slice (some ⟨g2, o2, none⟩) n c2]).run Tryd.prog w = .ok (.value (.bool false)) w := by
  have hf := Tryd.func50
  have hn : (Tryd.f50.name == "runtime.NumGoroutine") = false := by kernel_rfl
  have hb : Tryd.f50.body.isNone = true := by kernel_rfl
  have hp : Tryd.f50.params[0]? = some 34 := by kernel_rfl
  have hu := Tryd.underlying34
  obtain ⟨ht', inf, z', hi, hz', _, hks, hby⟩ := elemB_spec (show elemB Tryd.prog 34 62 2 32 = true by kernel_rfl)
  have hs : inf.size = 2 := by omega
  have s1 : w.shape? g1 = some (T1, cs1.size) := by simp [World.shape?, h1]
  have s2 : w.shape? g2 = some (T2, cs2.size) := by simp [World.shape?, h2]
  have f1 : ∀ j, w.frozen? ⟨g1, j, none⟩ = false := fun j => froz_own h1 j
  have f2 : ∀ j, w.frozen? ⟨g2, j, none⟩ = false := fun j => froz_own h2 j
  have run1 : ∀ args, (callFunc 50 args).run Tryd.prog w = ((Extern.SlicesOverlaps.overlaps Tryd.f50.params Tryd.f50.resultTypes args).run Tryd.prog w).andThen fun v w' => .ok (.value v) w' := fun args => by
    simp only [callFunc, Sem.run_bind, run_program, Result.andThen_ok, hf, hn, hb, overlaps_nextG, overlaps_findG]
    simp [mark, Sem.run, Sem.run_bind]
  rw [run1]
  have hne' : (g1 == g2) = false := by simpa using hne
  have hs' : (do let i ← typeInfo 62; pure i.size : Sem Nat).run Tryd.prog w = .ok 2 w := by simp [typeInfo, hi, hs]
  delta Extern.SlicesOverlaps.overlaps
  conv => lhs; arg 1; arg 2; whnf
  have hu' : Tryd.prog.underlying (Tryd.f50.params[0]'(by decide)) = some (.slice 62) := by kernel_rfl
  have sb : ∀ (α β : Type) (x : Sem α) (f : α → Sem β) (P : Program) (w : World), (x.bind f).run P w = (x.run P w).andThen fun a w' => (f a).run P w' := fun α β x f P w => Sem.run_bind' P x f w
  by_cases hm : m = 0 ∨ n = 0 ∨ inf.size = 0
  · simp [Sem.run, sb, hu', sizeOf, typeInfo, hi, hm]
  · simp [Sem.run, sb, hu', sizeOf, typeInfo, hi, hm, bne, hne', hne, noView, viewAt, mayBeOne, stringish, shape, frozen, s1, s2, f1, f2]

set_option maxRecDepth 100000 in
theorem ginsert_t (w0 : World) (X Y : List Ob) (p : Option Addr) (n cap : Nat) (l : List GngA) (i gv : Nat) (cv : Array Value) (m : Nat) (vl : List GngA) (w : World)
    (hH : Hs w0 (bx gv cv 62 :: (Y ++ X)) w) (hO : SlO 62 Y p n cap l) (hcv : cv.toList = vl.flatMap Enc.enc) (hm : m = vl.length) (hm0 : 0 < m) (hi : i ≤ n) (hb : n ≤ 1000) (hmb : m ≤ 1000)
    : Calls Tryd.prog 31 #[.slice p n cap, .int .i64 (i : Nat), .slice (some ⟨gv, 0, none⟩) m m] w fun e w' => ∃ q capq Y', e = .returned (.slice q (n + m) capq) ∧ SlO 62 Y' q (n + m) capq (l.take i ++ vl ++ l.drop i) ∧ Hs w0 (Y' ++ X) w' := by
  have hn := hO.len
  refine enter hH Tryd.func31 rfl Tryd.ntmps31 rfl (sq_ (qa0 [] [0, 1, 2] [] (ds_ (sq_ (qa [(2, .sl (.slice (if cap = i then p else p.map (·.add (i * 2))) (n - i) (cap - i)))] [0, 1, 2] [] ([SlRun Tryd.prog 34 (.slice p n cap) (some (.int .i64 (i : Nat))) none none (.slice (if cap = i then p else p.map (·.add (i * 2))) (n - i) (cap - i))]) (al1 (slE_cut (P := Tryd.prog) (T := 34) (e := 62) (k := 2) (by_ := 32) (by kernel_rfl) hi)) (ds_ (sq_ (qa0 [] [0, 1, 2] [(7, .int .i64 (m : Nat))] (ds_ (sq_ (sq_ (qa [(1, .no)] [0, 1, 2, 7] [(16, .bool false)] ([¬ (((m : Nat) : Int) = (0 : Int))]) (al1 (by omega)) (ds_ (f_ (at_skip (ds_ (sq_ (qa0 [] [0, 1, 2, 7] [(8, .int .i64 (n : Nat))] (ds_ (sq_ (sq_ ?_)))))))))))))))))))))
  by_cases q7 : ((i : Nat) : Int) = ((n : Nat) : Int)
  ·
    refine qa [(2, .yes)] [0, 1, 2, 7, 8] [(22, .bool true)] ([((i : Nat) : Int) = ((n : Nat) : Int)]) (al1 q7) (ds_ (t_ (sq_ (ao_ (qo0 2 [] [] [(23, .slice p n cap), (24, .slice (some ⟨gv, 0, none⟩) m m)] (ops_append (α := GngA) [bx gv cv 62] Y X (.refl _) rfl (by kernel_rfl) (by kernel_rfl) (p := p) (n := n) (cap := cap) (m := m) (yv := .slice (some ⟨gv, 0, none⟩) m m) (by kernel_rfl) (by kernel_rfl) (T := 62) (by_ := 32) (by kernel_rfl) l vl hO (fun w hw => src_svn Tryd.underlying34 (sv_row (hw.row 0 rfl) hcv) hm) hm (by have hmx : maxLen = 9223372036854775807 := rfl; omega) (by have hmx : maxLen = 9223372036854775807 := rfl; omega) (fun Y10 p10 cap10 hO10 => qo0 1 [] [] [(6, .slice p10 (n + m) cap10)] (on_ (ds_ (rt ([]) (.slice p10 (n + m) cap10) ?_))))))))))
    exact fun w' hw => ⟨_, _, _, rfl, by rw [show i = l.length by omega, List.take_length, List.drop_length, List.append_nil]; exact hO10, hw.tailN 1⟩
  ·
    refine qa [(2, .no)] [0, 1, 2, 7, 8] [(22, .bool false)] ([¬ (((i : Nat) : Int) = ((n : Nat) : Int))]) (al1 q7) (ds_ (f_ (at_skip (ds_ (sq_ (sq_ ?_))))))
    obtain ⟨g, cs, rfl, rfl, hOw⟩ := hO.rowOf (i := i) (by omega)
    have hcap := hOw.le
    have hcs := hOw.csz
    have hmax := hOw.max
    by_cases q15 : ((n + m : Nat) : Int) > ((cap : Nat) : Int)
    ·
      refine qa [(2, .fit), (5, .yes)] [0, 1, 2, 7, 8] [(31, .bool true)] ([Fit .i64 ((n + m : Nat))] ++ ([((n + m : Nat) : Int) > ((cap : Nat) : Int)])) (alA (al1 (fit64 (by omega) (by omega))) (al1 q15)) (ds_ (t_ (sq_ (ao_ (qo 8 [(2, .sl (.slice (some ⟨g, 0, none⟩) i cap)), (5, .fit), (7, .is [] (.int .i64 (n + m - i : Nat)))] [0, 1, 2, 7] [(34, .slice (some ⟨g, 0, none⟩) i cap), (39, .int .i64 (n + m - i : Nat))] ([SlRun Tryd.prog 34 (.slice (some ⟨g, 0, none⟩) n cap) none (some (.int .i64 (i : Nat))) none (.slice (some ⟨g, 0, none⟩) i cap)] ++ ([Fit .i64 ((n + m : Nat))] ++ ([Value.int .i64 (IntKind.i64.wrap ((((n + m : Nat)) : Int) - ((i : Nat) : Int))) = .int .i64 (n + m - i : Nat)]))) (alA (al1 (slE_hi (P := Tryd.prog) (T := 34) (e := 62) (k := 2) (by_ := 32) (by kernel_rfl) (h := i) (by omega))) (alA (al1 (fit64 (by omega) (by omega))) (al1 (by rw [wrap_fit (fit64 (by omega) (by omega))]; congr 1; omega)))) (ops_appendZ rfl (by kernel_rfl) (by kernel_rfl) (p := some ⟨g, 0, none⟩) (m := i) (cap := cap) (n := n + m - i) ((cs.toList.drop 0).take (i * 2)) (by kernel_rfl) (by kernel_rfl) (T := 62) (ks := 2) (by_ := 32) (by kernel_rfl) Tryd.underlying3 (by decide) (olds_len hcs (by omega)) (fun w hw => first_row (hw.row 1 rfl) (by rw [hcs, Nat.zero_add]; exact Nat.mul_le_mul_right _ (by omega))) (by omega) (by omega) (by simp only [maxLen]; omega) (by omega) (fun g2 c2 cap2 hc2 hle2 hmax2 hpre2 => qo0 1 [] [0, 1, 2, 7] [(9, .slice (some ⟨g2, 0, none⟩) (i + (n + m - i)) cap2)] (on_ (ds_ (sq_ (ao_ (qo 4 [(2, .sl (.slice (some ⟨g2, 0 + i * 2, none⟩) (i + (n + m - i) - i) (cap2 - i)))] [0, 1, 7, 9] [(43, .slice (some ⟨g2, 0 + i * 2, none⟩) (i + (n + m - i) - i) (cap2 - i)), (44, .slice (some ⟨gv, 0, none⟩) m m)] ([SlRun Tryd.prog 34 (.slice (some ⟨g2, 0, none⟩) (i + (n + m - i)) cap2) (some (.int .i64 (i : Nat))) none none (.slice (some ⟨g2, 0 + i * 2, none⟩) (i + (n + m - i) - i) (cap2 - i))]) (al1 (slE_lo (P := Tryd.prog) (T := 34) (e := 62) (k := 2) (by_ := 32) (by kernel_rfl) (lo := i) (by omega) (by omega))) (ops_copy 0 rfl (by kernel_rfl) (by kernel_rfl) (g := g2) (of := (0 + i * 2)) (dn := (i + (n + m - i) - i)) (dc := (cap2 - i)) (m := m) (cnt := m) (c := c2) (yv := (.slice (some ⟨gv, 0, none⟩) m m)) (vl.flatMap Enc.enc) (by kernel_rfl) (by kernel_rfl) (T := 62) (ks := 2) (by_ := 32) (by kernel_rfl) (T' := 62) (by kernel_rfl) len_slice (by omega) (fun w hw => by have := first_sv (P := Tryd.prog) (w := w) (p := some ⟨gv, 0, none⟩) (m := m) (cap := m) (cnt := m) (sv_row (hw.row 1 rfl) hcv) (by omega); rw [List.take_of_length_le (by omega)] at this; exact this) (by rw [flat_len, ← hm]; exact mul_room (c := cap2) (by omega) hc2) (flat_one vl) ?_)))))))))))))
      refine on_ (ds_ (sq_ (at_calmTo (f := 1) 8 rfl (by kernel_rfl) (by kernel_rfl) (by kernel_rfl) (by kernel_rfl) (by kernel_rfl) (by kernel_rfl) ?_)))
      refine cm 8 [(3, .fit), (4, .sl (.slice (some ⟨g2, 0 + (i + m) * 2, none⟩) (i + (n + m - i) - (i + m)) (cap2 - (i + m)))), (7, .sl (.slice (some ⟨g, 0 + i * 2, none⟩) (n - i) (cap - i)))] [9] [(50, .slice (some ⟨g2, 0 + (i + m) * 2, none⟩) (i + (n + m - i) - (i + m)) (cap2 - (i + m))), (53, .slice (some ⟨g, 0 + i * 2, none⟩) (n - i) (cap - i))] ([Fit .i64 ((i + m : Nat))] ++ ([SlRun Tryd.prog 34 (.slice (some ⟨g2, 0, none⟩) (i + (n + m - i)) cap2) (some (.int .i64 (i + m : Nat))) none none (.slice (some ⟨g2, 0 + (i + m) * 2, none⟩) (i + (n + m - i) - (i + m)) (cap2 - (i + m)))] ++ ([SlRun Tryd.prog 34 (.slice (some ⟨g, 0, none⟩) n cap) (some (.int .i64 (i : Nat))) none none (.slice (some ⟨g, 0 + i * 2, none⟩) (n - i) (cap - i))]))) (by kernel_rfl) rfl (alA (al1 (fit64 (by omega) (by omega))) (alA (al1 (slE_lo (P := Tryd.prog) (T := 34) (e := 62) (k := 2) (by_ := 32) (by kernel_rfl) (lo := i + m) (by omega) (by omega))) (al1 (slE_lo (P := Tryd.prog) (T := 34) (e := 62) (k := 2) (by_ := 32) (by kernel_rfl) (lo := i) (by omega) (by omega))))) ?_
      refine calm_nil' ?_
      refine done_pre (li' := #[true, true, true, true, true, true, true, true, false]) (by kernel_rfl) ?_
      refine a1 8 rfl ?_
      refine ops_copy 0 rfl (by kernel_rfl) (by kernel_rfl) (g := g2) (of := (0 + (i + m) * 2)) (dn := (i + (n + m - i) - (i + m))) (dc := (cap2 - (i + m))) (m := (n - i)) (cnt := (n - i)) (c := (sets c2 (0 + i * 2) (vl.flatMap Enc.enc))) (yv := (.slice (some ⟨g, 0 + i * 2, none⟩) (n - i) (cap - i))) ((cs.toList.drop (0 + i * 2)).take ((n - i) * 2)) (by kernel_rfl) (by kernel_rfl) (T := 62) (ks := 2) (by_ := 32) (by kernel_rfl) (T' := 62) (by kernel_rfl) len_slice (by omega) (fun w hw => first_row (hw.row 2 rfl) (row_room hOw (by omega))) (by rw [sets_size]; exact copy_room (c := cap2) hOw (by omega) (by omega) hc2) (row_one hOw (by omega)) ?_
      refine od_ ?_
      refine any_nil (by kernel_rfl) ?_
      refine ds_ (sq_ (qa0 [] [] [(6, .slice (some ⟨g2, 0, none⟩) (i + (n + m - i)) cap2)] (ds_ (rt ([]) (.slice (some ⟨g2, 0, none⟩) (i + (n + m - i)) cap2) ?_))))
      exact fun w' hw => ⟨some ⟨g2, 0, none⟩, cap2, [_], by rw [show i + (n + m - i) = n + m by omega], .inr ⟨_, _, rfl, rfl, by simp; omega, ins_grow hOw (by omega) hm (by omega) hc2 (by omega) hmax2 hpre2⟩, hw.sub (.cons_cons _ (.cons _ (.cons _ (.refl _))))⟩
    ·
      refine qa [(2, .fit), (5, .no)] [0, 1, 2, 7, 8] [(31, .bool false)] ([Fit .i64 ((n + m : Nat))] ++ ([¬ (((n + m : Nat) : Int) > ((cap : Nat) : Int))])) (alA (al1 (fit64 (by omega) (by omega))) (al1 q15)) (ds_ (f_ (at_skip (ds_ (sq_ (qa [(3, .fit), (4, .sl (.slice (some ⟨g, 0, none⟩) (n + m) cap))] [1, 2, 7, 8] [(0, .slice (some ⟨g, 0, none⟩) (n + m) cap)] ([Fit .i64 ((n + m : Nat))] ++ ([SlRun Tryd.prog 34 (.slice (some ⟨g, 0, none⟩) n cap) none (some (.int .i64 (n + m : Nat))) none (.slice (some ⟨g, 0, none⟩) (n + m) cap)])) (alA (al1 (fit64 (by omega) (by omega))) (al1 (slE_hi (P := Tryd.prog) (T := 34) (e := 62) (k := 2) (by_ := 32) (by kernel_rfl) (h := n + m) (by omega)))) (ds_ (sq_ (sq_ (ao_ (qo 6 [(4, .fit), (5, .sl (.slice (some ⟨g, 0 + (i + m) * 2, none⟩) (n + m - (i + m)) (cap - (i + m))))] [0, 1, 2, 7, 8] [(61, .slice (some ⟨gv, 0, none⟩) m m), (66, .slice (some ⟨g, 0 + (i + m) * 2, none⟩) (n + m - (i + m)) (cap - (i + m)))] ([Fit .i64 ((i + m : Nat))] ++ ([SlRun Tryd.prog 34 (.slice (some ⟨g, 0, none⟩) (n + m) cap) (some (.int .i64 (i + m : Nat))) none none (.slice (some ⟨g, 0 + (i + m) * 2, none⟩) (n + m - (i + m)) (cap - (i + m)))])) (alA (al1 (fit64 (by omega) (by omega))) (al1 (slE_lo (P := Tryd.prog) (T := 34) (e := 62) (k := 2) (by_ := 32) (by kernel_rfl) (lo := i + m) (by omega) (by omega)))) (ops_ext (f := 50) (args := #[.slice (some ⟨gv, 0, none⟩) m m, .slice (some ⟨g, 0 + (i + m) * 2, none⟩) (n + m - (i + m)) (cap - (i + m))]) (.bool false) (by kernel_rfl) (by kernel_rfl) (by kernel_rfl) (fun w hw => overlaps_noG (hw.row 0 rfl) (hw.row 1 rfl) (apart_two hw (a := 0) (b := 1) rfl rfl (by decide))) (qo0 1 [] [0, 1, 2, 7, 8] [(68, .bool true)] (on_ (ds_ (t_ (sq_ (at_calmTo (f := 1) 8 rfl (by kernel_rfl) (by kernel_rfl) (by kernel_rfl) (by kernel_rfl) (by kernel_rfl) (by kernel_rfl) ?_))))))))))))))))))
      refine cm 8 [(3, .fit), (4, .sl (.slice (some ⟨g, 0 + (i + m) * 2, none⟩) (n + m - (i + m)) (cap - (i + m)))), (7, .sl (.slice (some ⟨g, 0 + i * 2, none⟩) (n + m - i) (cap - i)))] [0, 1, 2] [(73, .slice (some ⟨g, 0 + (i + m) * 2, none⟩) (n + m - (i + m)) (cap - (i + m))), (76, .slice (some ⟨g, 0 + i * 2, none⟩) (n + m - i) (cap - i))] ([Fit .i64 ((i + m : Nat))] ++ ([SlRun Tryd.prog 34 (.slice (some ⟨g, 0, none⟩) (n + m) cap) (some (.int .i64 (i + m : Nat))) none none (.slice (some ⟨g, 0 + (i + m) * 2, none⟩) (n + m - (i + m)) (cap - (i + m)))] ++ ([SlRun Tryd.prog 34 (.slice (some ⟨g, 0, none⟩) (n + m) cap) (some (.int .i64 (i : Nat))) none none (.slice (some ⟨g, 0 + i * 2, none⟩) (n + m - i) (cap - i))]))) (by kernel_rfl) rfl (alA (al1 (fit64 (by omega) (by omega))) (alA (al1 (slE_lo (P := Tryd.prog) (T := 34) (e := 62) (k := 2) (by_ := 32) (by kernel_rfl) (lo := i + m) (by omega) (by omega))) (al1 (slE_lo (P := Tryd.prog) (T := 34) (e := 62) (k := 2) (by_ := 32) (by kernel_rfl) (lo := i) (by omega) (by omega))))) ?_
      refine calm_nil' ?_
      refine done_pre (li' := #[true, true, true, true, true, true, true, true, false]) (by kernel_rfl) ?_
      refine a1 8 rfl ?_
      refine ops_copy 1 rfl (by kernel_rfl) (by kernel_rfl) (g := g) (of := (0 + (i + m) * 2)) (dn := (n + m - (i + m))) (dc := (cap - (i + m))) (m := (n + m - i)) (cnt := (n - i)) (c := cs) (yv := (.slice (some ⟨g, 0 + i * 2, none⟩) (n + m - i) (cap - i))) ((cs.toList.drop (0 + i * 2)).take ((n - i) * 2)) (by kernel_rfl) (by kernel_rfl) (T := 62) (ks := 2) (by_ := 32) (by kernel_rfl) (T' := 62) (by kernel_rfl) len_slice (by omega) (fun w hw => first_row (hw.row 1 rfl) (row_room hOw (by omega))) (copy_room (c := cap) hOw (by omega) (by omega) hcs) (row_one hOw (by omega)) ?_
      refine od_ ?_
      refine any_nil (by kernel_rfl) ?_
      refine ds_ (sq_ (ao_ (qo 4 [(2, .sl (.slice (some ⟨g, 0 + i * 2, none⟩) (n + m - i) (cap - i)))] [0] [(80, .slice (some ⟨g, 0 + i * 2, none⟩) (n + m - i) (cap - i)), (81, .slice (some ⟨gv, 0, none⟩) m m)] ([SlRun Tryd.prog 34 (.slice (some ⟨g, 0, none⟩) (n + m) cap) (some (.int .i64 (i : Nat))) none none (.slice (some ⟨g, 0 + i * 2, none⟩) (n + m - i) (cap - i))]) (al1 (slE_lo (P := Tryd.prog) (T := 34) (e := 62) (k := 2) (by_ := 32) (by kernel_rfl) (lo := i) (by omega) (by omega))) (ops_copy 1 rfl (by kernel_rfl) (by kernel_rfl) (g := g) (of := (0 + i * 2)) (dn := (n + m - i)) (dc := (cap - i)) (m := m) (cnt := m) (c := (sets cs (0 + (i + m) * 2) ((cs.toList.drop (0 + i * 2)).take ((n - i) * 2)))) (yv := (.slice (some ⟨gv, 0, none⟩) m m)) (vl.flatMap Enc.enc) (by kernel_rfl) (by kernel_rfl) (T := 62) (ks := 2) (by_ := 32) (by kernel_rfl) (T' := 62) (by kernel_rfl) len_slice (by omega) (fun w hw => by have := first_sv (P := Tryd.prog) (w := w) (p := some ⟨gv, 0, none⟩) (m := m) (cap := m) (cnt := m) (sv_row (hw.row 0 rfl) hcv) (by omega); rw [List.take_of_length_le (by omega)] at this; exact this) (by rw [flat_len, ← hm, sets_size]; exact mul_room (c := cap) (by omega) hcs) (flat_one vl) (on_ (ds_ (sq_ (qa0 [] [] [(6, .slice (some ⟨g, 0, none⟩) (n + m) cap)] (ds_ (rt ([]) (.slice (some ⟨g, 0, none⟩) (n + m) cap) ?_))))))))))
      exact fun w' hw => ⟨_, _, [_], rfl, .inr ⟨_, _, rfl, rfl, by simp; omega, ins_room hOw (by omega) hm (by omega) (by omega)⟩, hw.sub (.cons _ (.refl _))⟩
end Go.Proofs.YtahccegfahghfaaDoor
